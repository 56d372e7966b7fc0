/- The evaluator, part 6. -/
import Derived.LoopN
import Derived.Below
import Derived.Test.YtelimhjceiamcaaDoorBEv5
set_option linter.unusedVariables false
set_option linter.unusedSimpArgs false
set_option linter.unnecessarySimpa false
namespace Go.Ev
section
variable {P : Program} {ng : Cx} {call : Qdb} {ops : Array Oper} {ms : List Nat} {r1 : Nat}
theorem Qyr: ∀(l:List Oper) (k:Nat) (d d':DS),dops P ng call ops ms r1 k l d=.ok d'->
  ∃st:Nat->DS,st k=d/\(∀(i:Nat) (o:Oper),l[i]? =some o->Qk1 P ng call ops ms r1 (k+i) o (st (k+i))=.ok (st (k+i+1)))/\st (k+l.length)=d'
 |[],k,d,d',h=>by
  simp only [dops] at h;cases h
  exact ⟨fun _=>d,rfl,fun i o h=>by simp at h,rfl⟩
 |o::l,k,d,d',h=>by
  simp only [dops] at h
  split at h
  ·rename_i d1 h1
   obtain ⟨st,s1,s2,s3⟩:=Qyr l (k+1) d1 d' h
   refine ⟨fun i=>if i=k then d else st i,by simp,?_,?_⟩
   ·intro i q hq
    cases i with
    |zero=>
     simp at hq;subst hq
     simp only [Nat.add_zero,if_true]
     rw [if_neg (by omega),s1];exact h1
    |succ i=>
     have:=s2 i q (by simpa using hq)
     simp only
     rw [if_neg (by omega),if_neg (by omega)]
     rw [show k+(i+1)=k+1+i by omega];exact this
   ·simp only [List.length_cons]
    rw [if_neg (by omega),show k+(l.length+1)=k+1+l.length by omega];exact s3
  ·cases h
  ·cases h
def Qea (P:Program) (ng:Cx) (ops:Array Oper) (ms:List Nat) (r1:Nat) (i:Nat) (o:Oper) (d d':DS) (v:AVal) (k:DK):Prop:=
 match k with
 |.lite=>d'.s.hp=d.s.hp/\d'.nx=d.nx/\Lite P ng ops.toList o (only d.t (o.looksAt ops)) v
 |.load b=>d'.s.hp=d.s.hp/\d'.nx=d.nx/\Qbs ng ops.toList (only d.t (o.looksAt ops)) o=some true/\Qcf P ng (only d.t (o.looksAt ops)) o.op d.s.hp.heap=some (v,b)
 |.fresh x c e=>x=d.nx/\d'.nx=d.nx+1/\d.nx<r1/\Qbs ng ops.toList (only d.t (o.looksAt ops)) o=some true/\(∃m,Qfr P ng (only d.t (o.looksAt ops)) o.op=some (c,e,m)/\v=m.val x)/\
   d'.s.hp=⟨d.s.hp.heap.set x (.cells c e),d.s.hp.log⟩
 |.mk x=>x=d.nx/\d'.nx=d.nx+1/\d.nx<r1/\Qbs ng ops.toList (only d.t (o.looksAt ops)) o=some true/\(∃ty,o.op=.makeMap ty none)/\v=.map x/\d'.s.hp=⟨d.s.hp.heap.set x (.map []),d.s.hp.log⟩
 |.ins x dd kk vv=>d'.nx=d.nx/\Qbs ng ops.toList (only d.t (o.looksAt ops)) o=some true/\InsA P ng (only d.t (o.looksAt ops)) o.op x dd kk vv/\v=Qb4/\ ∃l,d.s.hp.heap[x]? =some (.map l)/\
   d'.s.hp=⟨d.s.hp.heap.set x (.map (l++[(kk,vv)])),d.s.hp.log⟩
 |.eff pre=>d'.nx=d.nx/\ ∃hm',Step P ng ops.toList o (only d.t (o.looksAt ops)) ⟨Qeg (Qcl ms i 0 d.kds) d.s.hp.heap,[]⟩ v hm'/\
   d'.s.hp=⟨Qe8 d.s.hp.heap (Qcl ms i 0 d.kds) hm'.heap,hm'.log++d.s.hp.log⟩/\pre=hm'.log
def Qim (P:Program) (ng:Cx) (call:Qdb):Prop:= ∀f args hp v hp',call f args hp=.ok (v,hp')->CallP P ng f args hp (.val v) hp'
theorem Q3f {t:Tm} {kds:List DK} {op:Op} {r:Option (Nat×TypeDesc×AVal×AVal)} (h:Qvj P ng t kds op=some r):
  (r=none/\ ∃ty,op=.makeMap ty none)\/ ∃x d k v,r=some (x,d,k,v)/\InsA P ng t op x d k v:=by
 unfold Qvj at h
 split at h
 ·cases h;exact .inl ⟨rfl,_,rfl⟩
 ·right
  rename_i ty m k v
  split at h
  ·rename_i x hx
   split at h
   ·split at h
    ·rename_i kt vt hty
     split at h
     ·rename_i d hd
      split at h
      ·rename_i kv vv hk hv
       split at h
       ·rename_i u hu
        cases h
        exact ⟨x,d,kv,vv,rfl,ty,m,k,v,kt,vt,u,rfl,hty,hd,hx,hk,hv,hu⟩
       ·cases h
      ·cases h
     ·cases h
    ·cases h
   ·cases h
  ·cases h
 ·cases h
theorem Q82 (hcall:Qim P ng call) {i:Nat} {o:Oper} {d d':DS} (h:Qk1 P ng call ops ms r1 i o d=.ok d'):
  ∃v k,d'.t=putA d.t o.dst v/\d'.kds=d.kds++[k]/\Qea P ng ops ms r1 i o d d' v k:=by
 unfold Qk1 at h
 split at h
 ·split at h<;>cases h
 ·rename_i hw
  cases h
  exact ⟨Qb4,.lite,rfl,rfl,rfl,rfl,.inl ⟨hw,rfl⟩⟩
 ·rename_i hw
  split at h
  ·rename_i c hcl
   split at h
   ·rename_i f args hres
    split at h
    ·rename_i v s' hst
     cases h
     exact ⟨v,.eff s'.log,rfl,rfl,rfl,s',.call c f args v _ hw (Qts hcl) hres (hcall _ _ _ _ _ hst),rfl,rfl⟩
    ·cases h
    ·cases h
   ·cases h
  ·split at h
   ·rename_i hmo
    split at h
    ·rename_i hlt
     cases h
     rcases Q3f hmo with ⟨_,ty,hty⟩|⟨x,d',k,v,hc,_⟩
     ·exact ⟨_,.mk d.nx,rfl,rfl,rfl,rfl,Nat.blt_eq▸hlt,hw,⟨ty,hty⟩,rfl,rfl⟩
     ·cases hc
    ·cases h
   ·rename_i x dd kk vv hmo
    split at h
    ·rename_i l hl
     cases h
     rcases Q3f hmo with ⟨hc,_⟩|⟨x',d',k,v,hc,hi⟩
     ·cases hc
     ·cases hc
      exact ⟨Qb4,.ins x dd kk vv,rfl,rfl,rfl,hw,hi,rfl,l,hl,rfl⟩
    ·cases h
   ·split at h
    ·split at h
     ·rename_i v hf
      cases h
      exact ⟨_,.lite,rfl,rfl,rfl,rfl,.inr ⟨hw,Qmw hf⟩⟩
     ·cases h
     ·cases h
    ·split at h
     ·rename_i v b hl
      cases h
      exact ⟨_,.load b,rfl,rfl,rfl,rfl,hw,Qmw hl⟩
     ·cases h
     ·cases h
    ·split at h
     ·rename_i c e m hf
      split at h
      ·rename_i hlt
       cases h
       exact ⟨_,.fresh d.nx c e,rfl,rfl,rfl,rfl,Nat.blt_eq▸hlt,hw,⟨m,Qmw hf,rfl⟩,rfl⟩
      ·cases h
     ·cases h
     ·cases h
    ·split at h
     ·rename_i v s' hf
      cases h
      exact ⟨v,.eff s'.log,rfl,rfl,rfl,s',.eff v _ hw (Qmw hf),rfl,rfl⟩
     ·cases h
     ·cases h
theorem Qky {r:Option Nat} (hcall:Qim P ng call) {t t':Tm} {shp shp':Hp} (h:Qgo P ng call ops t shp=.ok (t',shp')):
  Touch shp shp'/\ ∀g w a (Q:Exit->Act->World->Prop),HRel ng g shp.heap w->FRel g t a->(∀a' w',Qp ng shp g w a (.normal,t',shp') .normal a' w'->Q .normal a' w')->
   wpAnyIn (FR r) 0 P .any ops Q ops.size (Array.replicate ops.size false) a w.drew:=by
 unfold Qgo at h
 generalize hms:Qce [] ops.toList=ms at h
 generalize hnf:Qhz P ops.toList=nf at h
 split at h
 ·rename_i hstat
  split at h
  ·rename_i d hd
   split at h
   ·rename_i hdyn
    cases h
    obtain ⟨st,s1,s2,s3⟩:=Qyr _ _ _ _ hd
    simp only [Nat.zero_add] at s2 s3
    have hlen:ops.toList.length=ops.size:=by simp
    rw [hlen] at s3
    have s2: ∀(i:Nat) (o:Oper),ops[i]? =some o->Qk1 P ng call ops ms (shp.heap.length+nf) i o (st i)=Res.ok (st (i+1)):=fun i o ho=>s2 i o (by simpa using ho)
    have hex: ∀i,i<ops.size-> ∃v k,∃o,ops[i]? =some o/\(st (i+1)).t=putA (st i).t o.dst v/\(st (i+1)).kds=(st i).kds++[k]/\Qea P ng ops ms (shp.heap.length+nf) i o (st i) (st (i+1)) v k:=by
     intro i hi
     have ho:ops[i]? =some ops[i]:=by simp [hi]
     obtain ⟨v,k,h1,h2,h3⟩:=Q82 hcall (s2 i _ ho)
     exact ⟨v,k,ops[i],ho,h1,h2,h3⟩
    have hkl: ∀i,i<=ops.size->(st i).kds.length=i:=by
     intro i
     induction i with
     |zero=>intro _;rw [s1];rfl
     |succ i ih=>
      intro hi
      obtain ⟨v,k,o,_,_,h2,_⟩:=hex i hi
      rw [h2];simp [ih (by omega)]
    have hkp: ∀i j,i<=j->j<=ops.size-> ∀m,m<i->(st i).kds[m]? =(st j).kds[m]?:=by
     intro i j hij
     induction j with
     |zero=>intro _ m hmi;omega
     |succ j ih=>
      intro hj m hmi
      rcases Nat.lt_or_ge i (j+1) with h9|h9
      ·obtain ⟨v,k,o,_,_,h2,_⟩:=hex j hj
       rw [ih (by omega) (by omega) m hmi,h2,List.getElem?_append_left (by rw [hkl j (by omega)];omega)]
      ·have:i=j+1:=by omega
       rw [this]
    let kd:Nat->DK:=fun i=>((st ops.size).kds[i]?).getD .lite
    have hkd: ∀i,i<ops.size-> ∃v,∃o,ops[i]? =some o/\(st (i+1)).t=putA (st i).t o.dst v/\Qea P ng ops ms (shp.heap.length+nf) i o (st i) (st (i+1)) v (kd i):=by
     intro i hi
     obtain ⟨v,k,o,ho,h1,h2,h3⟩:=hex i hi
     refine ⟨v,o,ho,h1,?_⟩
     have e1:(st (i+1)).kds[i]? =some k:=by
      have hl:=hkl i (by omega)
      rw [h2,List.getElem?_append_right (by omega),hl];simp
     have e2:=hkp (i+1) ops.size hi (Nat.le_refl _) i (Nat.lt_succ_self i)
     have:kd i=k:=by simp only [kd,<-e2,e1,Option.getD_some]
     rw [this];exact h3
    have hkdi: ∀i,i<ops.size->(st ops.size).kds[i]? =some (kd i):=by
     intro i hi
     have hl:i<(st ops.size).kds.length:=by rw [hkl _ (Nat.le_refl _)];exact hi
     simp only [kd,List.getElem?_eq_getElem hl,Option.getD_some]
    have hkdn: ∀i,ops.size<=i->kd i=.lite:=by
     intro i hi
     have hl:(st ops.size).kds.length<=i:=by rw [hkl _ (Nat.le_refl _)];exact hi
     simp only [kd,List.getElem?_eq_none hl,Option.getD_none]
    obtain ⟨val,hval⟩: ∃val:Nat->AVal,∀i,i<ops.size-> ∃o,ops[i]? =some o/\(st (i+1)).t=putA (st i).t o.dst (val i)/\Qea P ng ops ms (shp.heap.length+nf) i o (st i) (st (i+1)) (val i) (kd i):=by
     refine ⟨fun i=> @dite _ (i<ops.size) (Classical.propDecidable _) (fun hi=>(hkd i hi).choose) (fun _=>Qb4),fun i hi=> ?_⟩
     simp only [dif_pos hi]
     exact (hkd i hi).choose_spec
    have hvalo: ∀(i:Nat) (o:Oper),ops[i]? =some o->i<ops.size/\(st (i+1)).t=putA (st i).t o.dst (val i)/\Qea P ng ops ms (shp.heap.length+nf) i o (st i) (st (i+1)) (val i) (kd i):=by
     intro i o ho
     have hi:i<ops.size:=(Array.getElem?_eq_some_iff.1 ho).1
     obtain ⟨o',ho',h1,h2⟩:=hval i hi
     rw [ho] at ho';cases ho'
     exact ⟨hi,h1,h2⟩
    have hnx: ∀i j,i<=j->j<=ops.size->(st i).nx<=(st j).nx:=by
     intro i j hij
     induction j with
     |zero=>
      intro _
      have:i=0:=by omega
      subst this;exact Nat.le_refl _
     |succ j ih=>
      intro hj
      rcases Nat.lt_or_ge i (j+1) with h9|h9
      ·refine Nat.le_trans (ih (by omega) (by omega)) ?_
       obtain ⟨o,ho,_,h2⟩:=hval j hj
       unfold Qea at h2
       cases hk:kd j with
       |lite=>rw [hk] at h2;rw [h2.2.1];exact Nat.le_refl _
       |load b=>rw [hk] at h2;rw [h2.2.1];exact Nat.le_refl _
       |fresh x c e=>rw [hk] at h2;rw [h2.2.1];omega
       |mk x=>rw [hk] at h2;rw [h2.2.1];omega
       |ins x dd kk vv=>rw [hk] at h2;rw [h2.1];exact Nat.le_refl _
       |eff pre=>rw [hk] at h2;rw [h2.1];exact Nat.le_refl _
      ·have:i=j+1:=by omega
       rw [this];exact Nat.le_refl _
    have hnx0:(st 0).nx=shp.heap.length:=by rw [s1]
    have hfr: ∀j x c e,kd j=.fresh x c e->j<ops.size/\x=(st j).nx/\(st (j+1)).nx=x+1/\shp.heap.length<=x/\x<shp.heap.length+nf:=by
     intro j x c e hj
     have hjn:j<ops.size:=by
      rcases Nat.lt_or_ge j ops.size with h9|h9
      ·exact h9
      ·rw [hkdn j h9] at hj;cases hj
     obtain ⟨o,ho,_,h2⟩:=hval j hjn
     unfold Qea at h2
     rw [hj] at h2
     obtain ⟨e1,e2,e3,_⟩:=h2
     have:=hnx 0 j (Nat.zero_le _) (by omega)
     refine ⟨hjn,e1,by rw [e1];exact e2,by omega,by omega⟩
    have hfm: ∀j x,kd j=.mk x->j<ops.size/\x=(st j).nx/\(st (j+1)).nx=x+1/\shp.heap.length<=x/\x<shp.heap.length+nf:=by
     intro j x hj
     have hjn:j<ops.size:=by
      rcases Nat.lt_or_ge j ops.size with h9|h9
      ·exact h9
      ·rw [hkdn j h9] at hj;cases hj
     obtain ⟨o,ho,_,h2⟩:=hval j hjn
     unfold Qea at h2
     rw [hj] at h2
     obtain ⟨e1,e2,e3,_⟩:=h2
     have:=hnx 0 j (Nat.zero_le _) (by omega)
     refine ⟨hjn,e1,by rw [e1];exact e2,by omega,by omega⟩
    have h0heap:(st 0).s.hp.heap=shp.heap++List.replicate nf .gone:=by rw [s1]
    have h0len:(st 0).s.hp.heap.length=shp.heap.length+nf:=by rw [h0heap];simp
    have hmask: ∀i,i<=ops.size-> ∀x,x∈Qcl ms i 0 (st i).kds↔Qbv kd (fun i j=>ancB ms i j=true) i x:=by
     intro i hi x
     rw [Q3g]
     constructor
     ·rintro (⟨j,c,e,h1,h2⟩|⟨j,h1⟩)
      ·have hj:j<i:=by
        have:=(List.getElem?_eq_some_iff.1 h1).1
        rw [hkl i hi] at this;exact this
       have e1:=hkp i ops.size hi (Nat.le_refl _) j hj
       rw [h1] at e1
       refine .inl ⟨j,c,e,hj,?_,?_⟩
       ·have:=hkdi j (by omega)
        rw [<-e1] at this;exact (Option.some.inj this).symm
       ·rw [Nat.zero_add] at h2
        show¬ancB ms i j=true
        rw [h2];simp
      ·have hj:j<i:=by
        have:=(List.getElem?_eq_some_iff.1 h1).1
        rw [hkl i hi] at this;exact this
       have e1:=hkp i ops.size hi (Nat.le_refl _) j hj
       rw [h1] at e1
       refine .inr ⟨j,hj,?_⟩
       have:=hkdi j (by omega)
       rw [<-e1] at this;exact (Option.some.inj this).symm
     ·rintro (⟨j,c,e,hj,h1,h2⟩|⟨j,hj,h1⟩)
      ·refine .inl ⟨j,c,e,?_,?_⟩
       ·rw [hkp i ops.size hi (Nat.le_refl _) j hj,hkdi j (by omega),h1]
       ·rw [Nat.zero_add];simpa using h2
      ·exact .inr ⟨j,by rw [hkp i ops.size hi (Nat.le_refl _) j hj,hkdi j (by omega),h1]⟩
    have hlenm: ∀i,i<=ops.size->(st 0).s.hp.heap.length<=(st i).s.hp.heap.length:=by
     intro i
     induction i with
     |zero=>intro _;exact Nat.le_refl _
     |succ i ih=>
      intro hi
      refine Nat.le_trans (ih (by omega)) ?_
      obtain ⟨o,ho,_,h2⟩:=hval i hi
      unfold Qea at h2
      cases hk:kd i with
      |lite=>rw [hk] at h2;rw [h2.1];exact Nat.le_refl _
      |load b=>rw [hk] at h2;rw [h2.1];exact Nat.le_refl _
      |fresh x c e=>rw [hk] at h2;rw [h2.2.2.2.2.2];simp
      |mk x=>rw [hk] at h2;rw [h2.2.2.2.2.2.2];simp
      |ins x dd kk vv=>rw [hk] at h2;obtain ⟨_,_,_,_,l,_,h⟩:=h2;rw [h];simp
      |eff pre=>
       rw [hk] at h2
       obtain ⟨_,hm',h3,h4,_⟩:=h2
       rw [h4]
       have:=h3.touch.len
       simp only [Qhw] at this
       simp only [Qwd];exact this
    have T:DTr P ng ops shp.heap.length (fun i=>(st i).t) (fun i=>only (st i).t (match ops[i]? with
      |some o=>o.looksAt ops
      |none=>[])) (fun i=>(st i).s.hp) val kd (fun i j=>ancB ms i j=true):=by
     simp only [Qrd,Bool.and_eq_true] at hstat
     obtain ⟨⟨q1,q2⟩,q3⟩:=hstat
     simp only [Bool.and_eq_true] at hdyn
     obtain ⟨q4,q5,q6⟩:=hdyn
     have hedge: ∀(i:Nat) (o:Oper),ops[i]? =some o-> ∀e,e∈o.after->Region.binds .any e=true->e.on<i:=by
      intro i o ho e he hb
      have:=Qk2 ops.toList 0 q1 i o (by simpa using ho) e he hb
      omega
     constructor
     ·show shp.heap.length<=(st 0).s.hp.heap.length
      rw [h0len];omega
     ·exact hkdn
     ·exact hedge
     ·intro i j hij
      have hij:ancB ms i j=true:=hij
      unfold ancB at hij
      have hi:i<ops.size:=by
       rcases Nat.lt_or_ge i ops.size with h9|h9
       ·exact h9
       ·obtain ⟨r,e1,e2⟩:=Qnp ops.toList []
        have:ms.length=ops.size:=by rw [<-hms,e1];simp [e2]
        rw [List.getElem?_eq_none (by omega)] at hij
        simp at hij
      have ho:ops[i]? =some ops[i]:=by simp [hi]
      have h1:=Qr4 ops.toList [] i ops[i] (by simp [hi])
      rw [hms] at h1
      simp only [List.length_nil,Nat.zero_add] at h1
      rw [h1,Option.getD_some] at hij
      obtain ⟨e,he,hb,h3⟩:=Q3i _ _ _ hij
      refine ⟨ops[i],ho,e,he,hb,?_⟩
      rcases h3 with h3|h3
      ·exact .inl h3
      ·right
       show ancB ms e.on j=true
       unfold ancB
       have hlt:=hedge i _ ho e he hb
       rw [List.getElem?_take,if_pos hlt] at h3
       exact h3
     ·intro i j x y d hx hy hxd hyd
      exact Qsv ops.toList q2 i j x y d (by simpa using hx) (by simpa using hy) hxd hyd
     ·intro i d v hi hd
      have ho:ops[i]? =some ops[i]:=by simp [hi]
      simp only [ho] at hd
      obtain ⟨h1,h2⟩:=Q4g hd
      refine ⟨h1,fun j y hy hyd hji=> ?_⟩
      exact Qv9 q3 i j _ y d ho hy h2 hyd hji
     ·intro i;rfl
     ·intro i j hij hi hj
      have hi': ∃p,kd i=.eff p:=by cases hk:kd i<;>rw [hk] at hi<;>first|exact hi.elim|exact ⟨_,rfl⟩
      have hj': ∃p,kd j=.eff p:=by cases hk:kd j<;>rw [hk] at hj<;>first|exact hj.elim|exact ⟨_,rfl⟩
      obtain ⟨p,hp⟩:=hi'
      obtain ⟨q,hq⟩:=hj'
      have hjn:j<ops.size:=by
       rcases Nat.lt_or_ge j ops.size with h9|h9
       ·exact h9
       ·rw [hkdn j h9] at hq;cases hq
      have e1:=hkdi i (by omega)
      have e2:=hkdi j hjn
      rw [s3] at e1 e2
      exact Q86 q4 i j p q hij (by rw [e1,hp]) (by rw [e2,hq])
     ·intro i b j pre hi hj h1 h2
      have hin:i<ops.size:=by
       rcases Nat.lt_or_ge i ops.size with h9|h9
       ·exact h9
       ·rw [hkdn i h9] at hi;cases hi
      have hjn:j<ops.size:=by
       rcases Nat.lt_or_ge j ops.size with h9|h9
       ·exact h9
       ·rw [hkdn j h9] at hj;cases hj
      have e1:=hkdi i hin
      have e2:=hkdi j hjn
      rw [s3] at e1 e2
      exact Qbe6 q5 i j b pre (by rw [e1,hi]) (by rw [e2,hj]) h1 h2
     ·intro i o ho;exact (hvalo i o ho).2.1
     ·intro i j x c e c' e' hi hj
      obtain ⟨a1,a2,a3,_⟩:=hfr i x c e hi
      obtain ⟨b1,b2,b3,_⟩:=hfr j x c' e' hj
      rcases Nat.lt_trichotomy i j with h9|h9|h9
      ·have:=hnx (i+1) j h9 (by omega);omega
      ·exact h9
      ·have:=hnx (j+1) i h9 (by omega);omega
     ·intro i j x hi hj
      obtain ⟨a1,a2,a3,_⟩:=hfm i x hi
      obtain ⟨b1,b2,b3,_⟩:=hfm j x hj
      rcases Nat.lt_trichotomy i j with h9|h9|h9
      ·have:=hnx (i+1) j h9 (by omega);omega
      ·exact h9
      ·have:=hnx (j+1) i h9 (by omega);omega
     ·intro i j x c e hi hj
      obtain ⟨a1,a2,a3,_⟩:=hfm i x hi
      obtain ⟨b1,b2,b3,_⟩:=hfr j x c e hj
      rcases Nat.lt_trichotomy i j with h9|h9|h9
      ·have:=hnx (i+1) j h9 (by omega);omega
      ·subst h9;rw [hi] at hj;cases hj
      ·have:=hnx (j+1) i h9 (by omega);omega
     ·intro i j b hi hj
      have hin:i<ops.size:=by
       rcases Nat.lt_or_ge i ops.size with h9|h9
       ·exact h9
       ·rw [hkdn i h9] at hi;cases hi
      have hjn:=(hfm j b hj).1
      have e1:=hkdi i hin
      have e2:=hkdi j hjn
      rw [s3] at e1 e2
      exact Qbe5 q5 i j b (by rw [e1,hi]) (by rw [e2,hj])
     ·intro i x d' k v hi
      have hin:i<ops.size:=by
       rcases Nat.lt_or_ge i ops.size with h9|h9
       ·exact h9
       ·rw [hkdn i h9] at hi;cases hi
      have e1:=hkdi i hin
      rw [s3] at e1
      obtain ⟨⟨j,h1,h2⟩,_⟩:=Q0k q6 i x d' k v (by rw [e1,hi])
      refine ⟨j,?_,h2⟩
      have hjn:j<ops.size:=by
       have:=(List.getElem?_eq_some_iff.1 h1).1
       rw [<-s3,hkl _ (Nat.le_refl _)] at this;exact this
      have e2:=hkdi j hjn
      rw [s3,h1] at e2
      exact (Option.some.inj e2).symm
     ·intro i j x d1 k v d2 k' v' hij hi hj
      have hin:i<ops.size:=by
       rcases Nat.lt_or_ge i ops.size with h9|h9
       ·exact h9
       ·rw [hkdn i h9] at hi;cases hi
      have hjn:j<ops.size:=by
       rcases Nat.lt_or_ge j ops.size with h9|h9
       ·exact h9
       ·rw [hkdn j h9] at hj;cases hj
      have e1:=hkdi i hin
      have e2:=hkdi j hjn
      rw [s3] at e1 e2
      exact (Q0k q6 i x d1 k v (by rw [e1,hi])).2 j d2 k' v' hij (by rw [e2,hj])
     ·intro i o ho
      obtain ⟨hi,_,h2⟩:=hvalo i o ho
      unfold Qea at h2
      simp only [ho]
      cases hk:kd i with
      |lite=>rw [hk] at h2;exact ⟨h2.1,h2.2.2⟩
      |load b=>rw [hk] at h2;exact ⟨h2.1,h2.2.2.1,h2.2.2.2⟩
      |fresh x c e=>
       rw [hk] at h2
       obtain ⟨_,_,_,x0,x1⟩:=hfr i x c e hk
       refine ⟨h2.2.2.2.1,h2.2.2.2.2.1,x0,?_,h2.2.2.2.2.2⟩
       rw [h0heap,List.getElem?_append_right x0,List.getElem?_replicate,if_pos (by omega)]
      |mk x=>
       rw [hk] at h2
       obtain ⟨_,_,_,x0,x1⟩:=hfm i x hk
       refine ⟨h2.2.2.2.1,h2.2.2.2.2.1,h2.2.2.2.2.2.1,x0,?_,h2.2.2.2.2.2.2⟩
       rw [h0heap,List.getElem?_append_right x0,List.getElem?_replicate,if_pos (by omega)]
      |ins x dd kk vv=>
       rw [hk] at h2
       exact ⟨h2.2.1,h2.2.2.1,h2.2.2.2.1,h2.2.2.2.2⟩
      |eff pre=>
       rw [hk] at h2
       obtain ⟨_,hm',h3,h4,h5⟩:=h2
       have hmi:=hmask i (by omega)
       have hxr: ∀x,Qbv kd (fun i j=>ancB ms i j=true) i x->x<(st i).s.hp.heap.length:=by
        rintro x (⟨j,c,e,_,hj,_⟩|⟨j,_,hj⟩)
        ·have:=(hfr j x c e hj).2.2.2.2
         have:=hlenm i (by omega)
         omega
        ·have:=(hfm j x hj).2.2.2.2
         have:=hlenm i (by omega)
         omega
       refine ⟨⟨Qeg (Qcl ms i 0 (st i).kds) (st i).s.hp.heap,[]⟩,hm',h3,Qhw _ _,?_,?_,?_,?_,?_,?_⟩
       ·intro x hx;exact Q3h _ _ x ((hmi x).2 hx) (hxr x hx)
       ·intro x hx;exact Qjj _ _ x (fun h=>hx ((hmi x).1 h))
       ·rw [h4];exact Qwd _ _ _
       ·intro x hx
        rw [h4]
        refine Q5e _ _ _ x ((hmi x).2 hx) (hxr x hx) ?_
        have:=h3.touch.len
        simpa [Qhw] using this
       ·intro x hx
        rw [h4];exact Qjz _ _ _ x (fun h=>hx ((hmi x).1 h))
       ·intro x hxl hxp
        obtain ⟨pr,e1,e2⟩:=h3.touch.log
        simp only [List.append_nil] at e1
        exact e2 x hxl (by rw [<-e1,<-h5];exact hxp)
    have htouch: ∀i,i<=ops.size->(∃q,(st i).s.hp.log=q++shp.log/\ ∀x,x<shp.heap.length->x∉q->(st i).s.hp.heap[x]? =shp.heap[x]?)/\(∀x,x<shp.heap.length->Live (st i).s.hp.heap x->Live shp.heap x)/\
      (∀(x:Nat) (la:LoopA),x<shp.heap.length->(st i).s.hp.heap[x]? =some (Blk.loop la)-> ∃l0,shp.heap[x]? =some (Blk.loop l0)/\Qj2 l0 la):=by
     intro i
     induction i with
     |zero=>
      intro _
      rw [s1]
      refine ⟨⟨[],by simp,fun x hx _=>List.getElem?_append_left hx⟩,fun x hx ⟨k,hk,hne⟩=>⟨k,by simpa only [List.getElem?_append_left hx] using hk,hne⟩,fun x la hx hla=>⟨la,by simpa only [List.getElem?_append_left hx] using hla,rfl,rfl,rfl,rfl,rfl⟩⟩
     |succ i ih=>
      intro hi
      obtain ⟨⟨q,i1,i2⟩,i3,i4⟩:=ih (by omega)
      have hs:=T.step i _ (by simp:ops[i]? =some ops[i])
      obtain ⟨o,ho,_,h2⟩:=hval i hi
      unfold Qea at h2
      cases hk:kd i with
      |lite=>rw [hk] at h2;rw [h2.1];exact ⟨⟨q,i1,i2⟩,i3,i4⟩
      |load b=>rw [hk] at h2;rw [h2.1];exact ⟨⟨q,i1,i2⟩,i3,i4⟩
      |fresh x c e=>
       rw [hk] at h2
       rw [h2.2.2.2.2.2]
       have hx0:=(hfr i x c e hk).2.2.2.1
       refine ⟨⟨q,i1,fun y hy hn=> ?_⟩,fun y hy hl=>i3 y hy ?_,fun y la hy hla=> ?_⟩
       ·rw [List.getElem?_set_ne (by omega)];exact i2 y hy hn
       ·unfold Live at hl⊢
        rw [List.getElem?_set_ne (by omega)] at hl;exact hl
       ·simp only at hla
        rw [List.getElem?_set_ne (by omega)] at hla;exact i4 y la hy hla
      |mk x=>
       rw [hk] at h2
       rw [h2.2.2.2.2.2.2]
       have hx0:=(hfm i x hk).2.2.2.1
       refine ⟨⟨q,i1,fun y hy hn=> ?_⟩,fun y hy hl=>i3 y hy ?_,fun y la hy hla=> ?_⟩
       ·rw [List.getElem?_set_ne (by omega)];exact i2 y hy hn
       ·unfold Live at hl⊢
        rw [List.getElem?_set_ne (by omega)] at hl;exact hl
       ·simp only at hla
        rw [List.getElem?_set_ne (by omega)] at hla;exact i4 y la hy hla
      |ins x dd kk vv=>
       obtain ⟨jm,hjm,_⟩:=T.insM i x dd kk vv hk
       rw [hk] at h2
       obtain ⟨_,_,_,_,l,_,hh⟩:=h2
       rw [hh]
       have hx0:=(hfm jm x hjm).2.2.2.1
       refine ⟨⟨q,i1,fun y hy hn=> ?_⟩,fun y hy hl=>i3 y hy ?_,fun y la hy hla=> ?_⟩
       ·rw [List.getElem?_set_ne (by omega)];exact i2 y hy hn
       ·unfold Live at hl⊢
        rw [List.getElem?_set_ne (by omega)] at hl;exact hl
       ·simp only at hla
        rw [List.getElem?_set_ne (by omega)] at hla;exact i4 y la hy hla
      |eff pre=>
       rw [hk] at h2 hs
       obtain ⟨_,hm',h3,h4,h5⟩:=h2
       have hmi:=hmask i (by omega)
       have hnm: ∀x,x<shp.heap.length->x∉Qcl ms i 0 (st i).kds:=by
        intro x hx hin
        rcases (hmi x).1 hin with ⟨j,c,e,_,hj,_⟩|⟨j,_,hj⟩
        ·have:=(hfr j x c e hj).2.2.2.1
         omega
        ·have:=(hfm j x hj).2.2.2.1
         omega
       have hxl: ∀x,x<shp.heap.length->x<(st i).s.hp.heap.length:=fun x hx=>by
        have:=hlenm i (by omega)
        omega
       obtain ⟨pr,e1,e2⟩:=h3.touch.log
       simp only [List.append_nil] at e1
       rw [h4]
       refine ⟨⟨hm'.log++q,by simp [i1,List.append_assoc],fun x hx hn=> ?_⟩,fun x hx hl=>i3 x hx ?_,fun x la hx hla=> ?_⟩
       ·simp only [List.mem_append,not_or] at hn
        simp only
        rw [Qjz _ _ _ x (hnm x hx),e2 x (by rw [Qhw];exact hxl x hx) (by rw [<-e1];exact hn.1)]
        simp only
        rw [Qjj _ _ x (hnm x hx)]
        exact i2 x hx hn.2
       ·unfold Live at hl
        simp only at hl
        rw [Qjz _ _ _ x (hnm x hx)] at hl
        have:=h3.touch.live x (by rw [Qhw];exact hxl x hx) hl
        unfold Live at this⊢
        simp only at this
        rw [Qjj _ _ x (hnm x hx)] at this
        exact this
       ·simp only at hla
        rw [Qjz _ _ _ x (hnm x hx)] at hla
        obtain ⟨lb,hb,f1,f2,f3,f4,f5⟩:=h3.touch.loops x la (by rw [Qhw];exact hxl x hx) hla
        simp only at hb
        rw [Qjj _ _ x (hnm x hx)] at hb
        obtain ⟨lc,hc,e1,e2,e3,e4,e5⟩:=i4 x lb hx hb
        exact ⟨lc,hc,f1.trans e1,f2.trans e2,f3.trans e3,f4.trans e4,f5.trans e5⟩
    have htn:=htouch ops.size (Nat.le_refl _)
    rw [s3] at htn
    have htouch0:Touch shp d.s.hp:=by
     refine ⟨?_,htn.1,htn.2.1,htn.2.2⟩
     have:=hlenm ops.size (Nat.le_refl _)
     rw [s3,h0len] at this;omega
    refine ⟨htouch0,?_⟩
    intro g w a Q hH ht hQ
    have ht0:(st 0).t=t:=by rw [s1]
    have hrel0:HRel ng g (shp.heap++List.replicate nf .gone) w.drew:=by
     have hlv: ∀(i:Nat) (k:Blk),(shp.heap++List.replicate nf .gone)[i]? =some k->k≠.gone->shp.heap[i]? =some k:=by
      intro i k hk hne
      rcases Nat.lt_or_ge i shp.heap.length with h9|h9
      ·rwa [List.getElem?_append_left h9] at hk
      ·rw [List.getElem?_append_right h9] at hk
       have:=List.mem_of_getElem? hk
       simp only [List.mem_replicate] at this
       exact absurd this.2 hne
     refine ⟨fun i L hi=> ?_,?_,?_,hH.glob,hH.sig,hH.frz.to rfl rfl (by simp) (Nat.le_refl _) fun b hb q2=>⟨rfl,fun j L hj ⟨k,hk,hn⟩=>q2 j L hj ⟨k,hlv j k hk hn,hn⟩⟩⟩
     ·have:=hH.dom i L hi
      exact ⟨by simp;omega,this.2⟩
     ·intro i j L M hi hj hb ⟨k,hk,hn⟩ ⟨k',hk',hn'⟩
      exact hH.inj i j L M hi hj hb ⟨k,hlv i k hk hn,hn⟩ ⟨k',hlv j k' hk' hn',hn'⟩
     ·intro i k hi hk
      rcases hH.blk0 i k (hlv i k hi hk) hk with hz|⟨L,hL,hB⟩
      ·exact .inl hz
      exact .inr ⟨L,hL,hB.of_same rfl⟩
    have hext0:Ext g shp.heap w g (shp.heap++List.replicate nf .gone) w.drew:=by
     constructor
     ·exact Sub.refl g
     ·intro i L hi hn;rw [hn] at hi;cases hi
     ·intro i L hi hn;rw [hn] at hi;cases hi
     ·simp
     ·intro i hi ⟨k,hk,hne⟩
      rw [List.getElem?_append_left hi] at hk
      exact ⟨k,hk,hne⟩
     ·exact Nat.le_refl _
     ·intro _ _ _;rfl
     ·rfl
     ·rfl
     ·rfl
    have hno: ∀i,¬Ls (Array.replicate ops.size false) i:=by
     intro i h
     unfold Ls at h
     simp [Array.getElem?_replicate] at h
     split at h<;>simp at h
    have I:Inv P ng ops shp.heap.length (fun i=>(st i).t) (fun i=>(st i).s.hp) val kd g shp.heap w a (Array.replicate ops.size false) 0 g (shp.heap++List.replicate nf .gone) a w.drew:=by
     refine ⟨by simp,fun i o _ hl=>absurd hl (hno i),Nat.zero_le _,.inl rfl,fun j _ _=>hno j,by rw [h0heap],fun x _ _=>by rw [h0heap],fun j x hj=>⟨fun hl=>absurd hl (hno j),fun _=> ?_⟩,fun j x c e _ hl=>absurd hl (hno j),?_,hrel0,hext0,rfl,rfl,
      fun i o d _ _ hl=>absurd hl (hno i),?_⟩
     ·obtain ⟨_,_,_,x0,x1⟩:=hfm j x hj
      refine ⟨?_,?_⟩
      ·rw [List.getElem?_append_right x0,List.getElem?_replicate,if_pos (by omega)]
      ·cases hg:g x with
       |none=>rfl
       |some L=>have:=(hH.dom x L hg).1;omega
     ·intro j x c e hj _
      obtain ⟨_,_,_,x0,x1⟩:=hfr j x c e hj
      refine ⟨?_,?_⟩
      ·rw [List.getElem?_append_right x0,List.getElem?_replicate,if_pos (by omega)]
      ·cases hg:g x with
       |none=>rfl
       |some L=>have:=(hH.dom x L hg).1;omega
     ·intro d v _ hd
      simp only [ht0] at hd
      exact ht.1.2 d v hd
    refine Q8z T hH rfl (by simp only [ht0];exact ht.1.1) ?_ ops.size _ 0 g _ a w.drew I ?_
    ·intro g' a' w' k1 k2 k3 k4 k5
     simp only [s3] at k1 k2 k3
     have hdf:d.t.df=t.df:=by
      have key: ∀i,i<=ops.size->(st i).t.df=t.df:=by
       intro i
       induction i with
       |zero=>intro _;rw [ht0]
       |succ i ih=>
        intro hi
        obtain ⟨o,_,h1,_⟩:=hval i hi
        rw [h1,Q42];exact ih (by omega)
      rw [<-s3];exact key _ (Nat.le_refl _)
     exact hQ _ _ ⟨htouch0,g',trivial,k1,k2,⟨k3,by rw [hdf,k5];exact ht.2.mono k2.sub⟩,k4⟩
    ·unfold left
     have:((List.range ops.size).countP fun i=> !(Array.replicate ops.size false).getD i false)=(List.range ops.size).length:=by
      rw [List.countP_eq_length]
      intro i hi
      simp [List.mem_range.1 hi]
     rw [this];simp
   ·cases h
  ·cases h
  ·cases h
 ·cases h
end
section
variable {F : Fence} {n : Nat} {P : Program} {QA Q : Exit -> Act -> World -> Prop}
theorem Qrq {o:Oper} {a:Act} {w:World} {K K':Act->World->Prop} (hq: ∀e a w,e≠.normal->QA e a w->Q e a w) (hk: ∀a w,K a w->K' a w) (h:o.wpIn F n P a w K QA):o.wpIn F n P a w K' Q:=by
 unfold Oper.wpIn at h⊢
 refine ⟨h.1,?_⟩
 have h:=h.2
 generalize (o.semAt F.round a.eval).run P w=r at h⊢
 cases r with
 |ok x w'=>
  cases x<;>simp only [Oper.uponIn] at h⊢ <;>first
   |exact hk _ _ h
   |exact ⟨h.1,CallsIn.mono h.2 (fun e w'' he=>by
     cases e with
     |returned v=>exact hk _ _ he
     |panicked ch=>exact hq _ _ _ (by intro h;cases h) he
     |outgrown=>obtain ⟨a1,w1,h1⟩:=he;exact ⟨a1,w1,hq _ _ _ (by intro h;cases h) h1⟩)⟩
   |exact ⟨h.1,RowsIn.mono h.2 (fun _ _ he=>hk _ _ he)⟩
   |exact ⟨h.1,RoundIn.mono h.2 (fun e w'' he=>by
     cases e with
     |returned v=>exact hk _ _ he
     |panicked ch=>exact hq _ _ _ (by intro h;cases h) he
     |outgrown=>obtain ⟨a1,w1,h1⟩:=he;exact ⟨a1,w1,hq _ _ _ (by intro h;cases h) h1⟩)⟩
 |halt x w'=>cases x<;>simp only [Oper.uponIn] at h⊢ <;>exact hq _ _ _ (by intro h;cases h) h
inductive Anc (ops:Array Oper):Nat->Nat->Prop
 |one (i j:Nat) (o:Oper) (e:Edge):ops[i]? =some o->e∈o.after->Region.binds .any e=true->e.on=j->Anc ops i j
 |more (i j:Nat) (o:Oper) (e:Edge):ops[i]? =some o->e∈o.after->Region.binds .any e=true->Anc ops e.on j->Anc ops i j
theorem Qki (ops:Array Oper): ∀(i j:Nat),ancB (Qce [] ops.toList) i j=true->Anc ops i j:=by
 intro i
 induction i using Nat.strongRecOn with
 |_ i ih=>
  intro j h
  unfold ancB at h
  cases ho:ops[i]? with
  |none=>
   have hl:(Qce [] ops.toList).length=ops.size:=by
    obtain ⟨r,h1,h2⟩:=Qnp ops.toList []
    rw [h1];simpa using h2
   rw [Array.getElem?_eq_none_iff] at ho
   rw [List.getElem?_eq_none (by omega)] at h
   simp at h
  |some o=>
   have hg:=Qr4 ops.toList [] i o (by simpa using ho)
   rw [List.length_nil,Nat.zero_add] at hg
   rw [hg] at h
   simp only [Option.getD_some] at h
   obtain ⟨e,h1,h2,h3|h3⟩:=Q3i _ o j h
   ·exact .one i j o e ho h1 h2 h3
   ·rw [List.getElem?_take] at h3
    by_cases hlt:e.on<i
    ·rw [if_pos hlt] at h3
     exact .more i j o e ho h1 h2 (ih e.on hlt j h3)
    ·rw [if_neg hlt] at h3;simp at h3
theorem Qyj {ops:Array Oper} {m:Nat} (h:Qn0 ops m=true) {j:Nat} (hj:j<m):Anc ops m j:=by
 unfold Qn0 at h
 rw [List.all_eq_true] at h
 exact Qki ops m j (h j (List.mem_range.2 hj))
theorem Qno {ops:Array Oper} {listed:Array Bool} (hcl: ∀i o,ops[i]? =some o->Ls listed i-> ∀e,e∈o.after->Region.binds .any e=true->Ls listed e.on):
  ∀{i j:Nat},Anc ops i j->(∀o,ops[i]? =some o-> ∀e,e∈o.after->Region.binds .any e=true->Ls listed e.on)->Ls listed j
 |_,_,.one i j o e ho h1 h2 h3,h=>h3▸h o ho e h1 h2
 |_,_,.more i j o e ho h1 h2 h3,h=>Qno hcl h3 fun o' ho' e' h1' h2'=>hcl e.on o' ho' (h o ho e h1 h2) e' h1' h2'
theorem Qye: ∀{l:List Oper} {k:Nat},Qks k l=true-> ∀(i:Nat) (o:Oper),l[i]? =some o-> ∃e,e∈o.after/\Region.binds .any e=true/\e.on=k+i
 |[],_,_,i,o,h=>by simp at h
 |q::l,k,hc,0,o,h=>by
  simp at h;subst h
  simp only [Qks,Bool.and_eq_true,List.any_eq_true] at hc
  obtain ⟨⟨e,h1,h2,h3⟩,_⟩:=hc
  exact ⟨e,by simpa using h1,h2,by rw [Nat.eq_of_beq_eq_true h3];rfl⟩
 |q::l,k,hc,i+1,o,h=>by
  simp only [Qks,Bool.and_eq_true] at hc
  obtain ⟨e,h1,h2,h3⟩:=Qye hc.2 i o (by simpa using h)
  exact ⟨e,h1,h2,by omega⟩
structure Cut (ops:Array Oper) (m:Nat):Prop where
 edge: ∀(i:Nat) (o:Oper),ops[i]? =some o-> ∀e,e∈o.after->Region.binds .any e=true->e.on<i
 lt:m<ops.size
 first: ∀j,j<m->Anc ops m j
 next: ∀(k:Nat) (o:Oper),m<k->ops[k]? =some o-> ∃e,e∈o.after/\Region.binds .any e=true/\e.on+1=k
 guard: ∀(i:Nat) (o:Oper),i<m->ops[i]? =some o-> ∀j want,o.guard=some (j,want)->j<m
theorem Q59 {ops:Array Oper} {m:Nat} (h:Qm5 ops m=true):Cut ops m:=by
 unfold Qm5 at h
 simp only [Bool.and_eq_true] at h
 obtain ⟨h1,h2,h3⟩:=h
 split at h3
 ·cases h3
 ·rename_i o l hd
  simp only [Bool.and_eq_true] at h3
  obtain ⟨h3,h4⟩:=h3
  have hlt:m<ops.size:=by
   have:(ops.toList.drop m).length=l.length+1:=by rw [hd];simp
   simp at this;omega
  have hget: ∀i,(o::l)[i]? =ops[m+i]?:=by intro i;rw [<-hd];simp
  refine ⟨fun i o ho e he hb=> ?_,hlt,fun j hj=>Qyj h3 hj,fun k o' hk ho'=> ?_,fun i o' hi ho' j want hg=> ?_⟩
  ·have:=Qk2 ops.toList 0 h1 i o (by simpa using ho) e he hb
   omega
  ·have:=hget (k-m)
   rw [show m+(k-m)=k by omega,ho',show k-m=(k-m-1)+1 by omega,List.getElem?_cons_succ] at this
   obtain ⟨e,q1,q2,q3⟩:=Qye h4 (k-m-1) o' this
   exact ⟨e,q1,q2,by omega⟩
  ·unfold Qoq at h2
   rw [List.all_eq_true] at h2
   have hm:o'∈ops.toList.take m:=by
    refine List.mem_of_getElem? (i:=i) ?_
    rw [List.getElem?_take,if_pos hi];simpa using ho'
   have:=h2 o' hm
   rw [hg] at this
   simpa using this
structure CutW (ops:Array Oper) (m:Nat):Prop where
 edge: ∀(i:Nat) (o:Oper),ops[i]? =some o-> ∀e,e∈o.after->Region.binds .any e=true->e.on<i
 lt:m<ops.size
 first: ∀j,j<m->Anc ops m j
 next: ∀(k:Nat) (o:Oper),m<k->ops[k]? =some o-> ∃e,e∈o.after/\Region.binds .any e=true/\m<=e.on
 guard: ∀(i:Nat) (o:Oper),i<m->ops[i]? =some o-> ∀j want,o.guard=some (j,want)->j<m
theorem Cut.weak {ops:Array Oper} {m:Nat} (C:Cut ops m):CutW ops m:=
 ⟨C.edge,C.lt,C.first,fun k o hk ho=>let ⟨e,h1,h2,h3⟩:=C.next k o hk ho;⟨e,h1,h2,by omega⟩,C.guard⟩
theorem Q8o {ops:Array Oper} {m:Nat} (h:Qsn ops m=true):CutW ops m:=by
 unfold Qsn at h
 simp only [Bool.and_eq_true] at h
 obtain ⟨h1,h2,h3⟩:=h
 split at h3
 ·cases h3
 ·rename_i o l hd
  simp only [Bool.and_eq_true] at h3
  obtain ⟨h3,h4⟩:=h3
  have hlt:m<ops.size:=by
   have:(ops.toList.drop m).length=l.length+1:=by rw [hd];simp
   simp at this;omega
  have hget: ∀i,(o::l)[i]? =ops[m+i]?:=by intro i;rw [<-hd];simp
  refine ⟨fun i o ho e he hb=> ?_,hlt,fun j hj=>Qyj h3 hj,fun k o' hk ho'=> ?_,fun i o' hi ho' j want hg=> ?_⟩
  ·have:=Qk2 ops.toList 0 h1 i o (by simpa using ho) e he hb
   omega
  ·have:=hget (k-m)
   rw [show m+(k-m)=k by omega,ho',show k-m=(k-m-1)+1 by omega,List.getElem?_cons_succ] at this
   unfold Qxz at h4
   rw [List.all_eq_true] at h4
   have h5:=h4 o' (List.mem_of_getElem? this)
   rw [List.any_eq_true] at h5
   obtain ⟨e,q1,q2⟩:=h5
   simp only [Bool.and_eq_true] at q2
   exact ⟨e,by simpa using q1,q2.1,Nat.le_of_ble_eq_true q2.2⟩
  ·unfold Qoq at h2
   rw [List.all_eq_true] at h2
   have hm:o'∈ops.toList.take m:=by
    refine List.mem_of_getElem? (i:=i) ?_
    rw [List.getElem?_take,if_pos hi];simpa using ho'
   have:=h2 o' hm
   rw [hg] at this
   simpa using this
def Upto (listed:Array Bool) (n t:Nat):Prop:=listed.size=n/\ ∀i,Ls listed i↔i<t
theorem Qbjt {listed:Array Bool} {n t:Nat} (h:Upto listed n t) (ht:t<n):Upto (listed.setIfInBounds t true) n (t+1):=by
 refine ⟨by simp [h.1],fun i=> ?_⟩
 rw [Qr listed t i (by rw [h.1];exact ht),h.2 i]
 omega
theorem Qxr {ops:Array Oper} {m:Nat} (C:Cut ops m): ∀(r t:Nat),t+r=ops.size->m<=t-> ∀(listed:Array Bool) (a:Act) (w:World),Upto listed ops.size t->wpListIn F n P ops Q (ops.toList.drop t) a w->
  wpAnyIn F n P .any ops Q r listed a w:=by
 have hready: ∀(t:Nat) (listed:Array Bool),m<=t->Upto listed ops.size t-> ∀i∈Region.ready .any ops listed,i=t:=by
  intro t listed hmt hu i hi
  obtain ⟨o,hr⟩:=Qg3 hu.1 hi
  have hno: ¬i<t:=fun h=>hr.no ((hu.2 i).2 h)
  rcases Nat.lt_or_ge t i with h9|h9
  ·obtain ⟨e,e1,e2,e3⟩:=C.next i o (by omega) hr.op
   have:=(hu.2 e.on).1 (hr.edges e e1 e2)
   omega
  ·omega
 intro r
 induction r with
 |zero=>
  intro t ht hmt listed a w hu h
  refine ⟨?_,?_⟩
  ·rw [List.eq_nil_iff_forall_not_mem]
   intro i hi
   have:=hready t listed hmt hu i hi
   obtain ⟨o,hr⟩:=Qg3 hu.1 hi
   have:=Qcm hr
   omega
  ·rw [List.drop_eq_nil_of_le (by simp;omega)] at h
   exact h
 |succ r ih=>
  intro t ht hmt listed a w hu h
  have htn:t<ops.size:=by omega
  have ho:ops[t]? =some ops[t]:=by simp [htn]
  have hdrop:ops.toList.drop t=ops[t]::ops.toList.drop (t+1):=by
   rw [List.drop_eq_getElem_cons (by simpa using htn)];simp
  rw [hdrop] at h
  constructor
  ·intro hnil
   exfalso
   have hin:t∈Region.ready .any ops listed:=by
    unfold Region.ready
    simp only [List.mem_filter,List.mem_range,Bool.and_eq_true,Bool.not_eq_true']
    refine ⟨htn,?_,?_⟩
    ·have:=hu.2 t
     unfold Ls at this
     have hs:=hu.1
     simp [show t<listed.size by omega] at this⊢
     exact this
    ·rw [ho]
     simp only [Option.map_some,Option.getD_some,Array.all_eq_true_iff_forall_mem]
     intro e he
     by_cases hb:Region.binds .any e=true
     ·have:=(hu.2 e.on).2 (C.edge t _ ho e he hb)
      unfold Ls at this
      simp [this]
     ·simp [hb]
   rw [hnil] at hin;cases hin
  ·intro i hi
   have:=hready t listed hmt hu i hi
   subst this
   have hnext:=fun a w (h:wpListIn F n P ops Q (ops.toList.drop (i+1)) a w)=>ih (i+1) (by omega) (by omega) (listed.setIfInBounds i true) a w (Qbjt hu htn) h
   unfold wpOpIn
   rw [ho]
   simp only
   unfold wpListIn at h
   split
   ·rename_i hw
    rw [if_pos hw] at h
    exact Qrq (fun _ _ _ _ h=>h) hnext h
   ·rename_i hw
    rw [if_neg hw] at h
    exact ⟨h.1,hnext _ _ h.2⟩
theorem Qr6 {ops:Array Oper} {m:Nat} (C:CutW ops m) (hq: ∀e a w,e≠.normal->QA e a w->Q e a w) (hb: ∀listed a w,Upto listed ops.size m->QA .normal a w->wpAnyIn F n P .any ops Q (ops.size-m) listed a w):
  ∀(fuel:Nat) (lA listed:Array Bool) (a:Act) (w:World),lA.size=m->listed.size=ops.size->(∀i,Ls listed i↔Ls lA i)->(∀i o,ops[i]? =some o->Ls lA i-> ∀e,e∈o.after->Region.binds .any e=true->Ls lA e.on)->left m lA=fuel->wpAnyIn F n P .any (ops.toList.take m).toArray QA fuel lA a w->
   wpAnyIn F n P .any ops Q (fuel+(ops.size-m)) listed a w:=by
 have hsz:(ops.toList.take m).toArray.size=m:=by have:=C.lt;simp;omega
 have hgetA: ∀i,i<m->(ops.toList.take m).toArray[i]? =ops[i]?:=by
  intro i hi
  simp [hi]
 have lsA: ∀(lA:Array Bool),lA.size=m-> ∀i,Ls lA i->i<m:=by
  intro lA h i hi
  unfold Ls at hi
  rcases Nat.lt_or_ge i m with h9|h9
  ·exact h9
  ·rw [Array.getD_eq_getD_getElem?,Array.getElem?_eq_none (by omega)] at hi
   simp at hi
 have hmem: ∀(lA listed:Array Bool),lA.size=m->listed.size=ops.size->(∀i,Ls listed i↔Ls lA i)->(∀i o,ops[i]? =some o->Ls lA i-> ∀e,e∈o.after->Region.binds .any e=true->Ls lA e.on)->(∃j,j<m/\ ¬Ls lA j)-> ∀i∈Region.ready .any ops listed,i<m/\i∈Region.ready .any (ops.toList.take m).toArray lA:=by
  intro lA listed h1 h2 h3 hcl ⟨j,hj,hnj⟩ i hi
  obtain ⟨o,hr⟩:=Qg3 h2 hi
  have him:i<m:=by
   rcases Nat.lt_trichotomy i m with h9|h9|h9
   ·exact h9
   ·subst h9
    refine absurd (Qno hcl (C.first j hj) fun o' ho' e e1 e2=> ?_) hnj
    rw [hr.op] at ho';cases ho'
    exact (h3 e.on).1 (hr.edges e e1 e2)
   ·obtain ⟨e,e1,e2,e3⟩:=C.next i o h9 hr.op
    have:=lsA lA h1 _ ((h3 e.on).1 (hr.edges e e1 e2))
    omega
  refine ⟨him,?_⟩
  unfold Region.ready
  simp only [List.mem_filter,List.mem_range,Bool.and_eq_true,Bool.not_eq_true']
  refine ⟨by rw [hsz];exact him,?_,?_⟩
  ·have: ¬Ls lA i:=fun h=>hr.no ((h3 i).2 h)
   unfold Ls at this
   simp [show i<lA.size by omega] at this⊢
   exact this
  ·rw [hgetA i him,hr.op]
   simp only [Option.map_some,Option.getD_some,Array.all_eq_true_iff_forall_mem]
   intro e he
   by_cases hb:Region.binds .any e=true
   ·have:=(h3 e.on).1 (hr.edges e he hb)
    unfold Ls at this
    simp [this]
   ·simp [hb]
 intro fuel
 induction fuel with
 |zero=>
  intro lA listed a w h1 h2 h3 hcl hf h
  have hall: ∀i,i<m->Ls lA i:=by
   intro i hi
   unfold left at hf
   rw [List.countP_eq_zero] at hf
   have:=hf i (List.mem_range.2 hi)
   simpa [Ls] using this
  have hu:Upto listed ops.size m:=⟨h2,fun i=>⟨fun h=>lsA lA h1 i ((h3 i).1 h),fun h=>(h3 i).2 (hall i h)⟩⟩
  rw [Nat.zero_add]
  exact hb listed a w hu h.2
 |succ fuel ih=>
  intro lA listed a w h1 h2 h3 hcl hf h
  have hex: ∃j,j<m/\ ¬Ls lA j:=by
   refine Classical.byContradiction fun hn=> ?_
   have:left m lA=0:=by
    unfold left
    rw [List.countP_eq_zero]
    intro i hi
    have:Ls lA i:=Classical.byContradiction fun h=>hn ⟨i,List.mem_range.1 hi,h⟩
    simpa [Ls] using this
   omega
  rw [Nat.succ_add]
  refine ⟨?_,?_⟩
  ·intro hnil
   exfalso
   obtain ⟨j,hj,hnj,hmin⟩: ∃j,j<m/\ ¬Ls lA j/\ ∀i,i<j->Ls lA i:=by
    obtain ⟨j,hj,hnj⟩:=hex
    induction j using Nat.strongRecOn with
    |_ j ihj=>
     by_cases hc: ∃i,i<j/\ ¬Ls lA i
     ·obtain ⟨i,q1,q2⟩:=hc
      exact ihj i q1 (by omega) q2
     ·exact ⟨j,hj,hnj,fun i hi=>Classical.byContradiction fun h=>hc ⟨i,hi,h⟩⟩
   have hjn:j<ops.size:=by have:=C.lt;omega
   have ho:ops[j]? =some ops[j]:=by simp [hjn]
   have hin:j∈Region.ready .any ops listed:=by
    unfold Region.ready
    simp only [List.mem_filter,List.mem_range,Bool.and_eq_true,Bool.not_eq_true']
    refine ⟨hjn,?_,?_⟩
    ·have: ¬Ls listed j:=fun h=>hnj ((h3 j).1 h)
     unfold Ls at this
     simp [show j<listed.size by omega] at this⊢
     exact this
    ·rw [ho]
     simp only [Option.map_some,Option.getD_some,Array.all_eq_true_iff_forall_mem]
     intro e he
     by_cases hb:Region.binds .any e=true
     ·have:=(h3 e.on).2 (hmin e.on (C.edge j _ ho e he hb))
      unfold Ls at this
      simp [this]
     ·simp [hb]
   rw [hnil] at hin;cases hin
  ·intro i hi
   obtain ⟨him,hiA⟩:=hmem lA listed h1 h2 h3 hcl hex i hi
   have hop:=h.2 i hiA
   obtain ⟨o,hr⟩:=Qg3 h2 hi
   have hnl: ¬Ls lA i:=fun h=>hr.no ((h3 i).2 h)
   have hnext: ∀a w,wpAnyIn F n P .any (ops.toList.take m).toArray QA fuel (lA.setIfInBounds i true) a w->wpAnyIn F n P .any ops Q (fuel+(ops.size-m)) (listed.setIfInBounds i true) a w:=by
    intro a w h
    refine ih _ _ a w (by simp [h1]) (by simp [h2]) (fun j=> ?_) (fun k o' ho' hk e e1 e2=> ?_) ?_ h
    ·rw [Qr listed i j (by have:=Qcm hr;omega),Qr lA i j (by omega),h3 j]
    ·rw [Qr lA i _ (by omega)] at hk⊢
     rcases hk with hk|hk
     ·subst hk
      rw [hr.op] at ho';cases ho'
      exact .inr ((h3 e.on).1 (hr.edges e e1 e2))
     ·exact .inr (hcl k o' ho' hk e e1 e2)
    ·have:=Qt0 him h1 hnl
     omega
   unfold wpOpIn at hop⊢
   rw [hgetA i him,hr.op] at hop
   rw [hr.op]
   simp only at hop⊢
   have hyl:Region.wanted o (yielded (ops.toList.take m).toArray a.tmps)=Region.wanted o (yielded ops a.tmps):=by
    unfold Region.wanted
    cases hg:o.guard with
    |none=>rfl
    |some q=>
     obtain ⟨j,want⟩:=q
     have:=C.guard i o him hr.op j want hg
     simp only [yielded,hgetA j this]
   rw [hyl] at hop
   split
   ·rename_i hw
    rw [if_pos hw] at hop
    exact Qrq hq hnext hop
   ·rename_i hw
    rw [if_neg hw] at hop
    exact ⟨hop.1,hnext _ _ hop.2⟩
end
section
variable {P : Program} {ng : Cx} {call : Qdb} {ops : Array Oper}
theorem Qjh (m i:Nat): ¬Ls (Array.replicate m false) i:=by
 unfold Ls
 rw [Array.getD_eq_getD_getElem?,Array.getElem?_replicate]
 split<;>simp
theorem Qwz {r:Option Nat} (hcall:Qim P ng call): ∀(rest:List Oper) (t t':Tm) (hp hp':Hp),seqS P ng call ops.toList rest t hp=.ok (t',hp')->
  Touch hp hp'/\ ∀(g:Inj) (w:World) (a:Act),HRel ng g hp.heap w->FRel g t a->wpListIn (FR r) 0 P ops (Qp ng hp g w a (.normal,t',hp')) rest a w
 |[],t,t',hp,hp',h=>by
  simp only [seqS] at h
  cases h
  exact ⟨Touch.refl _,fun g w a hH ht=>⟨Touch.refl _,g,trivial,hH,Ext.refl _ _ _,ht,rfl⟩⟩
 |o::l,t,t',hp,hp',h=>by
  have fin: ∀v h1,Step P ng ops.toList o t hp v h1->seqS P ng call ops.toList l (putA t o.dst v) h1=.ok (t',hp')->
    Touch hp hp'/\ ∀(g:Inj) (w:World) (a:Act),HRel ng g hp.heap w->FRel g t a->wpListIn (FR r) 0 P ops (Qp ng hp g w a (.normal,t',hp')) (o::l) a w:=by
   intro v h1 hst hrec
   obtain ⟨ih1,ih2⟩:=Qwz hcall l _ t' h1 hp' hrec
   refine ⟨hst.touch.trans ih1,fun g w a hH ht=>wpListIn_step fun K hK=> ?_⟩
   refine hst.wp hH ht.1 fun g' u w' hv hH' hE=>hK _ _ ?_
   refine Qnh (fun e a' w'' hq=>Qp.trans hH hst.touch hE (Qe7 a o.dst u).1 hq) l _ _ (ih2 g' w' _ hH' ((ht.mono hE.sub).put o.dst hv))
  simp only [seqS] at h
  split at h
  ·split at h<;>cases h
  ·rename_i hw
   exact fin _ _ (.skip hw) h
  ·rename_i hw
   split at h
   ·rename_i c hcl
    split at h
    ·rename_i f args hres
     split at h
     ·rename_i v h1 hst
      exact fin _ _ (.call c f args v _ hw (Qts hcl) hres (hcall _ _ _ _ _ hst)) h
     ·cases h
     ·cases h
    ·cases h
   ·split at h
    ·rename_i v h1 ho
     exact fin _ _ (Qv0 hw (Qmw ho)) h
    ·cases h
    ·cases h
def Qkd (listed:Array Bool) (n mask:Nat):Prop:=listed.size=n/\ ∀i,Ls listed i↔mask.testBit i=true
theorem Qwa {listed:Array Bool} {mask:Nat} (h:Qkd listed ops.size mask) {i:Nat} (hi:i∈Region.ready .any ops listed):i∈Qh5 ops.toList mask:=by
 obtain ⟨o,hr⟩:=Qg3 h.1 hi
 have hlt:=Qcm hr
 unfold Qh5
 simp only [List.mem_filter,List.mem_range,Bool.and_eq_true,Bool.not_eq_true']
 refine ⟨by simpa using hlt,?_,?_⟩
 ·have h1: ¬mask.testBit i=true:=fun hb=>hr.no ((h.2 i).2 hb)
  simpa using h1
 ·rw [show ops.toList[i]? =some o by simpa using hr.op]
  simp only [List.all_eq_true,Bool.or_eq_true,Bool.not_eq_true']
  intro e he
  cases hb:Region.binds .any e with
  |false=>exact .inl rfl
  |true=>exact .inr ((h.2 _).1 (hr.edges e (by simpa using he) hb))
theorem Qbjd {listed:Array Bool} {mask:Nat} (h:Qkd listed ops.size mask) {i:Nat} (hi:i∈Qh5 ops.toList mask):i∈Region.ready .any ops listed:=by
 unfold Qh5 at hi
 simp only [List.mem_filter,List.mem_range,Bool.and_eq_true,Bool.not_eq_true'] at hi
 obtain ⟨h1,h2,h3⟩:=hi
 have hlt:i<ops.size:=by simpa using h1
 have ho:ops[i]? =some ops[i]:=by simp [hlt]
 rw [show ops.toList[i]? =some ops[i] by simp [hlt]] at h3
 simp only [List.all_eq_true,Bool.or_eq_true,Bool.not_eq_true'] at h3
 unfold Region.ready
 simp only [List.mem_filter,List.mem_range,Bool.and_eq_true,Bool.not_eq_true']
 refine ⟨hlt,?_,?_⟩
 ·have hno: ¬Ls listed i:=fun hl=>by rw [(h.2 i).1 hl] at h2;cases h2
  unfold Ls at hno
  have hs:=h.1
  simp [show i<listed.size by omega] at hno⊢
  exact hno
 ·rw [ho]
  simp only [Option.map_some,Option.getD_some,Array.all_eq_true_iff_forall_mem]
  intro e he
  rcases h3 e (by simpa using he) with hb|hb
  ·simp [hb]
  ·have:=(h.2 e.on).2 hb
   unfold Ls at this
   simp [this]
theorem Qbfd {listed:Array Bool} {mask i:Nat} (h:Qkd listed ops.size mask) (hi:i<ops.size):Qkd (listed.setIfInBounds i true) ops.size (mask|||2^i):=by
 refine ⟨by simp [h.1],fun j=> ?_⟩
 rw [Qr listed i j (by rw [h.1];exact hi),h.2 j]
 simp only [Nat.testBit_or,Bool.or_eq_true,Nat.testBit_two_pow,decide_eq_true_eq]
 constructor
 ·rintro (h|h)
  ·exact .inr h.symm
  ·exact .inl h
 ·rintro (h|h)
  ·exact .inr h
  ·exact .inl h.symm
theorem Q4h {h0:Hp} {go:Nat->Res (Tm×Hp)} {x x':Tm×Hp}: ∀{l:List Nat},Qmr h0 go x l=.ok x'->x'=x/\ ∀j,j∈l-> ∃y,go j=.ok y/\Qof h0 x y=true
 |[],h=>by simp only [Qmr] at h;cases h;exact ⟨rfl,by simp⟩
 |k::l,h=>by
  simp only [Qmr] at h
  split at h
  ·rename_i y hy
   split at h
   ·rename_i he
    obtain ⟨h1,h2⟩:=Q4h h
    refine ⟨h1,fun j hj=> ?_⟩
    rcases List.mem_cons.1 hj with rfl|hj
    ·exact ⟨y,hy,he⟩
    ·exact h2 j hj
   ·cases h
  ·cases h
  ·cases h
theorem Qng {F:Fence} {n:Nat} {Q Q':Exit->Act->World->Prop} (hq: ∀e a w,Q e a w->Q' e a w): ∀(r:Nat) (listed:Array Bool) (a:Act) (w:World),wpAnyIn F n P .any ops Q r listed a w->wpAnyIn F n P .any ops Q' r listed a w
 |0,listed,a,w,h=>⟨h.1,hq _ _ _ h.2⟩
 |r+1,listed,a,w,h=>by
  refine ⟨fun hn=>hq _ _ _ (h.1 hn),fun i hi=> ?_⟩
  have hop:=h.2 i hi
  unfold wpOpIn at hop⊢
  split
  ·rename_i ho
   rw [ho] at hop
   exact Qng hq r _ _ _ hop
  ·rename_i o ho
   rw [ho] at hop
   simp only at hop
   split
   ·rename_i hw
    rw [if_pos hw] at hop
    exact Qrq (fun e a w _ h=>hq e a w h) (fun a w h=>Qng hq r _ _ _ h) hop
   ·rename_i hw
    rw [if_neg hw] at hop
    exact ⟨hop.1,Qng hq r _ _ _ hop.2⟩
theorem Qnn {rr:Option Nat} (hcall:Qim P ng call): ∀(r mask:Nat) (t:Tm) (hp:Hp) (x:Tm×Hp),allS P ng call ops.toList r mask t hp=.ok x->
  Touch hp x.2/\ ∀(listed:Array Bool) (g:Inj) (w:World) (a:Act),Qkd listed ops.size mask->HRel ng g hp.heap w->FRel g t a->wpAnyIn (FR rr) 0 P .any ops (Qp ng hp g w a (.normal,x.1,x.2)) r listed a w
 |0,mask,t,hp,x,h=>by
  simp only [allS] at h
  split at h
  ·rename_i hnil
   cases h
   refine ⟨Touch.refl _,fun listed g w a hm hH ht=>⟨?_,Touch.refl _,g,trivial,hH,Ext.refl _ _ _,ht,rfl⟩⟩
   rw [List.eq_nil_iff_forall_not_mem]
   intro i hi
   have:=Qwa hm hi
   rw [hnil] at this;cases this
  ·cases h
 |r+1,mask,t,hp,x,h=>by
  simp only [allS] at h
  split at h
  ·rename_i hnil
   cases h
   refine ⟨Touch.refl _,fun listed g w a hm hH ht=>⟨fun _=>⟨Touch.refl _,g,trivial,hH,Ext.refl _ _ _,ht,rfl⟩,fun i hi=> ?_⟩⟩
   have:=Qwa hm hi
   rw [hnil] at this;cases this
  ·rename_i i is hcons
   split at h
   ·rename_i t1 h1 ho1
    split at h
    ·rename_i x0 hx0
     obtain ⟨rfl,hoth⟩:=Q4h h
     have one: ∀(j:Nat) (t2:Tm) (h2:Hp),oneS P ng call ops.toList j t hp=.ok (t2,h2)-> ∃o,ops[j]? =some o/\Touch hp h2/\ ∀(g:Inj) (w:World) (a:Act),HRel ng g hp.heap w->FRel g t a->wpListIn (FR rr) 0 P ops (Qp ng hp g w a (.normal,t2,h2)) [o] a w:=by
      intro j t2 h2 hj
      unfold oneS at hj
      split at hj
      ·rename_i o ho
       obtain ⟨b1,b2⟩:=Qwz (r:=rr) hcall [o] _ _ _ _ hj
       exact ⟨o,by simpa using ho,b1,b2⟩
      ·cases hj
     obtain ⟨_,_,T1,_⟩:=one i t1 h1 ho1
     have Tx:Touch hp x.2:=T1.trans (Qnn (rr:=rr) hcall r _ _ _ _ hx0).1
     have every: ∀j,j∈i::is-> ∃t2 h2 y,oneS P ng call ops.toList j t hp=.ok (t2,h2)/\allS P ng call ops.toList r (mask|||2^j) t2 h2=.ok y/\y.1=x.1/\y.2.heap=x.2.heap:=by
      intro j hj
      rcases List.mem_cons.1 hj with rfl|hj
      ·exact ⟨t1,h1,x,ho1,hx0,rfl,rfl⟩
      ·obtain ⟨y,hy,he⟩:=hoth j hj
       split at hy
       ·rename_i t2 h2 ho2
        obtain ⟨_,_,T2,_⟩:=one j t2 h2 ho2
        obtain ⟨e1,e2⟩:=Q9m he Tx (T2.trans (Qnn (rr:=rr) hcall r _ _ _ _ hy).1)
        exact ⟨t2,h2,y,ho2,hy,e1.symm,e2.symm⟩
       ·cases hy
       ·cases hy
     refine ⟨Tx,fun listed g w a hm hH ht=>⟨fun hn=> ?_,fun j hj=> ?_⟩⟩
     ·exfalso
      have:=Qbjd hm (show i∈Qh5 ops.toList mask by rw [hcons];exact .head _)
      rw [hn] at this;cases this
     ·obtain ⟨t2,h2,y,ho2,hy,e1,e2⟩:=every j (by rw [<-hcons];exact Qwa hm hj)
      obtain ⟨o,ho,T2,hwp⟩:=one j t2 h2 ho2
      have hjl:j<ops.size:=(Array.getElem?_eq_some_iff.1 ho).1
      have hl:=hwp g w a hH ht
      have hnext: ∀a' w',Qp ng hp g w a (.normal,t2,h2) .normal a' w'->wpAnyIn (FR rr) 0 P .any ops (Qp ng hp g w a (.normal,x.1,x.2)) r (listed.setIfInBounds j true) a' w':=by
       intro a' w' hk
       obtain ⟨k0,g',k1,k2,k3,k4,k5⟩:=hk
       refine Qng (fun e a'' w'' q=> ?_) _ _ _ _ ((Qnn (rr:=rr) hcall r _ _ _ _ hy).2 _ g' w' a' (Qbfd hm hjl) k2 k4)
       obtain ⟨q0,g2,q1,q2,q3,q4,q5⟩:=Qp.trans hH T2 k3 k5 q
       simp only at q2 q3 q4
       rw [e2] at q2 q3
       rw [e1] at q4
       exact ⟨Tx,g2,q1,q2,q3,q4,q5⟩
      unfold wpOpIn
      rw [ho]
      simp only
      unfold wpListIn at hl
      split
      ·rename_i hw
       rw [if_pos hw] at hl
       refine Qrq (fun e a' w' hne hk=> ?_) (fun a' w' hk=>hnext a' w' hk) hl
       obtain ⟨_,g2,q1,_⟩:=hk
       cases e<;>first|exact absurd rfl hne|cases q1
      ·rename_i hw
       rw [if_neg hw] at hl
       exact ⟨hl.1,hnext _ _ hl.2⟩
    ·cases h
    ·cases h
   ·cases h
   ·cases h
theorem Qyu {r:Option Nat} (hm:P.follows .mixedOrders=true) (hcall:Qim P ng call) {t t':Tm} {shp shp':Hp} (h:Qst P ng call ops t shp=.ok (t',shp')):
  Touch shp shp'/\ ∀(id:Nat) g w a,HRel ng g shp.heap w->FRel g t a->(Code.region id ops true).wpIn (FR r) 0 P (Qp ng shp g w a (.normal,t',shp')) a w:=by
 have plain:Qgo P ng call ops t shp=.ok (t',shp')->Touch shp shp'/\ ∀(id:Nat) g w a,HRel ng g shp.heap w->FRel g t a->(Code.region id ops true).wpIn (FR r) 0 P (Qp ng shp g w a (.normal,t',shp')) a w:=by
  intro h
  obtain ⟨h1,h2⟩:=Qky (r:=r) hcall h
  exact ⟨h1,fun id g w a hH ht=>wpIn_region_any hm (h2 g w a _ hH ht fun _ _ q=>q)⟩
 have arm: ∀m,Qn5 P ng call ops m t shp=.ok (t',shp')->Touch shp shp'/\ ∀(id:Nat) g w a,HRel ng g shp.heap w->FRel g t a->(Code.region id ops true).wpIn (FR r) 0 P (Qp ng shp g w a (.normal,t',shp')) a w:=by
  intro m h
  unfold Qn5 at h
  split at h
  ·rename_i hok
   have C:=Q59 hok
   split at h
   ·rename_i t1 s1 h1
    obtain ⟨a1,a2⟩:=Qky (r:=r) hcall h1
    obtain ⟨b1,b2⟩:=Qwz (r:=r) hcall _ _ _ _ _ h
    refine ⟨a1.trans b1,fun id g w a hH ht=>wpIn_region_any hm ?_⟩
    have hsz:(ops.toList.take m).toArray.size=m:=by have:=C.lt;simp;omega
    have hA:=a2 g w a (fun e a' w'=>e=.normal/\Qp ng shp g w a (.normal,t1,s1) .normal a' w') hH ht (fun a' w' q=>⟨rfl,q⟩)
    rw [hsz] at hA
    have key:=Qr6 C.weak (F:=FR r) (n:=0) (P:=P) (Q:=Qp ng shp g w a (.normal,t',shp')) (QA:=fun e a' w'=>e=.normal/\Qp ng shp g w a (.normal,t1,s1) .normal a' w') (fun e a w hne h=>absurd h.1 hne)
     (fun listed a' w' hu h=>Qxr C (ops.size-m) m (by have:=C.lt;omega) (Nat.le_refl _) listed a' w' hu (by
      obtain ⟨_,k0,g',k1,k2,k3,k4,k5⟩:=h
      exact Qnh (fun e a'' w'' q=>Qp.trans hH a1 k3 k5 q) _ _ _ (b2 g' w' a' k2 k4))) m (Array.replicate m false) (Array.replicate ops.size false) a w.drew (by simp) (by simp)
     (fun i=>by unfold Ls;simp [Array.getElem?_replicate];split<;>split<;>simp) (fun i o _ hi=>absurd hi (Qjh m i)) ?_ hA
    ·rw [show m+(ops.size-m)=ops.size by have:=C.lt;omega] at key
     exact key
    ·unfold left
     have:((List.range m).countP fun i=> !(Array.replicate m false).getD i false)=(List.range m).length:=by
      rw [List.countP_eq_length]
      intro i hi
      simp [List.mem_range.1 hi]
     rw [this];simp
   ·cases h
   ·cases h
  ·exact plain h
 have all: ∀m,Qsu P ng call ops m t shp=.ok (t',shp')->Touch shp shp'/\ ∀(id:Nat) g w a,HRel ng g shp.heap w->FRel g t a->(Code.region id ops true).wpIn (FR r) 0 P (Qp ng shp g w a (.normal,t',shp')) a w:=by
  intro m h
  unfold Qsu at h
  split at h
  ·rename_i hok
   have C:=Q8o hok
   split at h
   ·rename_i t1 s1 h1
    obtain ⟨a1,a2⟩:=Qky (r:=r) hcall h1
    obtain ⟨b1,b2⟩:=Qnn (ops:=ops) (rr:=r) hcall _ _ _ _ _ h
    refine ⟨a1.trans b1,fun id g w a hH ht=>wpIn_region_any hm ?_⟩
    have hsz:(ops.toList.take m).toArray.size=m:=by have:=C.lt;simp;omega
    have hA:=a2 g w a (fun e a' w'=>e=.normal/\Qp ng shp g w a (.normal,t1,s1) .normal a' w') hH ht (fun a' w' q=>⟨rfl,q⟩)
    rw [hsz] at hA
    have key:=Qr6 C (F:=FR r) (n:=0) (P:=P) (Q:=Qp ng shp g w a (.normal,t',shp')) (QA:=fun e a' w'=>e=.normal/\Qp ng shp g w a (.normal,t1,s1) .normal a' w') (fun e a w hne h=>absurd h.1 hne)
     (fun listed a' w' hu h=>by
      obtain ⟨_,k0,g',k1,k2,k3,k4,k5⟩:=h
      refine Qng (fun e a'' w'' q=>Qp.trans hH a1 k3 k5 q) _ _ _ _ (b2 listed g' w' a' ⟨hu.1,fun i=> ?_⟩ k2 k4)
      rw [hu.2 i,Nat.testBit_two_pow_sub_one]
      simp) m (Array.replicate m false) (Array.replicate ops.size false) a w.drew (by simp) (by simp)
     (fun i=>by unfold Ls;simp [Array.getElem?_replicate];split<;>split<;>simp) (fun i o _ hi=>absurd hi (Qjh m i)) ?_ hA
    ·rw [show m+(ops.size-m)=ops.size by have:=C.lt;omega] at key
     exact key
    ·unfold left
     have:((List.range m).countP fun i=> !(Array.replicate m false).getD i false)=(List.range m).length:=by
      rw [List.countP_eq_length]
      intro i hi
      simp [List.mem_range.1 hi]
     rw [this];simp
   ·cases h
   ·cases h
  ·cases h
 have last: ∀m,Qkz P ng call ops t shp m=.ok (t',shp')->Touch shp shp'/\ ∀(id:Nat) g w a,HRel ng g shp.heap w->FRel g t a->(Code.region id ops true).wpIn (FR r) 0 P (Qp ng shp g w a (.normal,t',shp')) a w:=by
  intro m
  induction m with
  |zero=>intro h;cases h
  |succ m ih=>
   intro h
   simp only [Qkz] at h
   split at h
   ·exact ih h
   ·exact all m h
 unfold Qst at h
 split at h
 ·split at h
  ·split at h
   ·split at h
    ·exact last _ h
    ·exact arm _ h
   ·exact last _ h
  ·exact plain h
 ·exact arm _ h
end
end Go.Ev
namespace Go.Ev
inductive SK where
 |i (k:IntKind)
 |b
 |s
def skOf:AVal->Option SK
 |.int k _=>some (.i k)
 |.symi k _=>some (.i k)
 |.bool _=>some .b
 |.symb _=>some .b
 |.str _=>some .s
 |.syms _=>some .s
 |_=>none
def Qcy (a b:AVal):Bool:=
 match skOf a with
 |some (.i k)=>match skOf b with
  |some (.i k')=>decide (k=k')
  |_=>false
 |some .b=>match skOf b with
  |some .b=>true
  |_=>false
 |some .s=>match skOf b with
  |some .s=>true
  |_=>false
 |none=>false
theorem sk_i {a:AVal} {k:IntKind} (h:skOf a=some (.i k)) (σ:Sig):(∃n,den σ a=.int k n)/\ ∀i,Qcj a i=.symi k i:=by
 cases a<;>simp only [skOf,Option.some.injEq,SK.i.injEq,reduceCtorEq] at h
 ·subst h;exact ⟨⟨_,rfl⟩,fun _=>rfl⟩
 ·subst h;exact ⟨⟨_,rfl⟩,fun _=>rfl⟩
theorem sk_b {a:AVal} (h:skOf a=some .b) (σ:Sig):(∃n,den σ a=.bool n)/\ ∀i,Qcj a i=.symb i:=by
 cases a<;>simp only [skOf,Option.some.injEq,reduceCtorEq] at h
 ·exact ⟨⟨_,rfl⟩,fun _=>rfl⟩
 ·exact ⟨⟨_,rfl⟩,fun _=>rfl⟩
theorem sk_s {a:AVal} (h:skOf a=some .s) (σ:Sig):(∃n,den σ a=.str n)/\ ∀i,Qcj a i=.syms i:=by
 cases a<;>simp only [skOf,Option.some.injEq,reduceCtorEq] at h
 ·exact ⟨⟨_,rfl⟩,fun _=>rfl⟩
 ·exact ⟨⟨_,rfl⟩,fun _=>rfl⟩
def mgS (ng:Cx) (i:Nat) (a b:AVal):Option AVal:=
 match a,b with
 |.bool true,.bool false=>some (.symb i)
 |.bool false,.bool true=>symS ng (.un .not (.symb i))
 |a,b=>match Qcy a b with
  |true=>symS ng (.ite (.symb i) a b)
  |false=>none
def isNt:AVal->Bool
 |.int _ _=>true
 |.symi _ _=>true
 |.str _=>true
 |.syms _=>true
 |_=>false
mutual
def mgV (ng:Cx) (i:Nat):AVal->AVal->Option AVal
 |.agg l,.agg m=>match mgL ng i l m with
  |some r=>some (.agg r)
  |none=>none
 |.tuple l,.tuple m=>match mgL ng i l m with
  |some r=>some (.tuple r)
  |none=>none
 |.iface t v,.iface t' v'=>match Nat.beq t t' with
  |true=>match mgV ng i v v' with
   |some r=>some (.iface t r)
   |none=>none
  |false=>none
 |.lsl b z ap o n,.lsl b' z' ap' o' n'=>match Nat.beq b b'&&(Nat.beq z z'&&(ap==ap')) with
  |true=>match mgV ng i o o',mgV ng i n n' with
   |some x,some y=>match isNt x&&isNt y with
    |true=>some (.lsl b z ap x y)
    |false=>none
   |_,_=>none
  |false=>none
 |.lptr b z x j,.lptr b' z' x' j'=>match Nat.beq b b'&&(Nat.beq z z'&&Nat.beq j j') with
  |true=>match mgV ng i x x' with
   |some y=>match isNt y with
    |true=>some (.lptr b z y j)
    |false=>none
   |none=>none
  |false=>none
 |a,b=>match eqV a b with
  |true=>some a
  |false=>mgS ng i a b
def mgL (ng:Cx) (i:Nat):List AVal->List AVal->Option (List AVal)
 |[],[]=>some []
 |a::l,b::m=>match mgV ng i a b,mgL ng i l m with
  |some r,some s=>some (r::s)
  |_,_=>none
 |_,_=>none
end
theorem Qbfq {ng:Cx} {i:Nat} {a b r:AVal} (h:mgS ng i a b=some r) (g:Inj) (hg:ng.Good g.sig) (v:Value):(g.sig.bval i=true->VRel g a v->VRel g r v)/\(g.sig.bval i=false->VRel g b v->VRel g r v):=by
 unfold mgS at h
 split at h
 ·cases h
  refine ⟨fun e hv=> ?_,fun e hv=> ?_⟩<;>(cases hv;rw [<-e];exact .symb i)
 ·obtain ⟨q,h1,h2⟩:=Qch hg h
  simp only [Qb,den,unA,Option.some.injEq] at h1
  subst h1
  refine ⟨fun e hv=> ?_,fun e hv=> ?_⟩<;>(cases hv;refine h2 _ ?_;rw [e];exact .bool _)
 ·split at h
  ·rename_i hk
   obtain ⟨q,h1,h2⟩:=Qch hg h
   simp only [Qb,den] at h1
   cases h1
   refine ⟨fun e hv=>h2 _ ?_,fun e hv=>h2 _ ?_⟩
   ·rw [e];exact Qk.2 hv
   ·rw [e];exact Qk.2 hv
  ·cases h
theorem Qgu {g:Inj} {a:AVal} {k:IntKind} {n:Int} (h:den g.sig a=.int k n):VRel g a (.int k n):=Qk.1 (by rw [h];exact .int _ _)
theorem Q6d {g:Inj} {a:AVal} {S:ByteArray} (h:den g.sig a=.str S):VRel g a (.string S):=Qk.1 (by rw [h];exact .str _)
theorem Qgm {g:Inj} {a:AVal} {k:IntKind} {n:Int} (hn:isNt a=true) (h:VRel g a (.int k n)):den g.sig a=.int k n:=by
 cases h<;>first|rfl|(simp [isNt] at hn)
theorem Qyq {g:Inj} {a:AVal} {S:ByteArray} (hn:isNt a=true) (h:VRel g a (.string S)):den g.sig a=.str S:=by
 cases h<;>first|rfl|(simp [isNt] at hn)
mutual
theorem Qb3 {ng:Cx} {i:Nat}: ∀(a b r:AVal),mgV ng i a b=some r-> ∀(g:Inj),ng.Good g.sig-> ∀(v:Value),(g.sig.bval i=true->VRel g a v->VRel g r v)/\(g.sig.bval i=false->VRel g b v->VRel g r v)
 |a,b,r,h,g,hg,v=>by
  unfold mgV at h
  split at h
  ·rename_i l m
   split at h
   ·rename_i s hs
    cases h
    exact ⟨fun e hv=>by cases hv with|agg _ l' h1=>exact .agg _ l' ((Qjo l m s hs g hg l'.toList).1 e h1),
     fun e hv=>by cases hv with|agg _ l' h1=>exact .agg _ l' ((Qjo l m s hs g hg l'.toList).2 e h1)⟩
   ·cases h
  ·rename_i l m
   split at h
   ·rename_i s hs
    cases h
    exact ⟨fun e hv=>by cases hv with|tuple _ l' h1=>exact .tuple _ l' ((Qjo l m s hs g hg l'.toList).1 e h1),
     fun e hv=>by cases hv with|tuple _ l' h1=>exact .tuple _ l' ((Qjo l m s hs g hg l'.toList).2 e h1)⟩
   ·cases h
  ·rename_i t v1 t' v2
   split at h
   ·rename_i ht
    have ht:=Nat.eq_of_beq_eq_true ht
    subst ht
    split at h
    ·rename_i s hs
     cases h
     exact ⟨fun e hv=>by cases hv with|iface _ _ u h1=>exact .iface t s u ((Qb3 v1 v2 s hs g hg u).1 e h1),
      fun e hv=>by cases hv with|iface _ _ u h1=>exact .iface t s u ((Qb3 v1 v2 s hs g hg u).2 e h1)⟩
    ·cases h
   ·cases h
  ·rename_i b z ap o n b' z' ap' o' n'
   split at h
   ·rename_i ht
    simp only [Bool.and_eq_true] at ht
    have e1:=Nat.eq_of_beq_eq_true ht.1
    have e2:=Nat.eq_of_beq_eq_true ht.2.1
    have e3:=eq_of_beq ht.2.2
    subst e1;subst e2;subst e3
    split at h
    ·rename_i x y hx hy
     split at h
     ·rename_i hn
      simp only [Bool.and_eq_true] at hn
      cases h
      exact ⟨fun e hv=>by
        cases hv with
        |lsl _ _ _ _ _ p q cap ao k1 k2 k3 k4 k5=>exact .lsl _ _ _ _ _ p q cap ao (Qgm hn.1 ((Qb3 o o' x hx g hg _).1 e (Qgu k1))) (Qgm hn.2 ((Qb3 n n' y hy g hg _).1 e (Qgu k2))) k3 k4 k5,
       fun e hv=>by
        cases hv with
        |lsl _ _ _ _ _ p q cap ao k1 k2 k3 k4 k5=>exact .lsl _ _ _ _ _ p q cap ao (Qgm hn.1 ((Qb3 o o' x hx g hg _).2 e (Qgu k1))) (Qgm hn.2 ((Qb3 n n' y hy g hg _).2 e (Qgu k2))) k3 k4 k5⟩
     ·cases h
    ·cases h
   ·cases h
  ·rename_i b z x j b' z' x' j'
   split at h
   ·rename_i ht
    simp only [Bool.and_eq_true] at ht
    have e1:=Nat.eq_of_beq_eq_true ht.1
    have e2:=Nat.eq_of_beq_eq_true ht.2.1
    have e3:=Nat.eq_of_beq_eq_true ht.2.2
    subst e1;subst e2;subst e3
    split at h
    ·rename_i y hy
     split at h
     ·rename_i hn
      cases h
      exact ⟨fun e hv=>by
        cases hv with
        |lptr _ _ _ _ m L k1 k2 k3 k4=>exact .lptr _ _ _ _ m L k1 (Qgm hn ((Qb3 x x' y hy g hg _).1 e (Qgu k2))) k3 k4,
       fun e hv=>by
        cases hv with
        |lptr _ _ _ _ m L k1 k2 k3 k4=>exact .lptr _ _ _ _ m L k1 (Qgm hn ((Qb3 x x' y hy g hg _).2 e (Qgu k2))) k3 k4⟩
     ·cases h
    ·cases h
   ·cases h
  ·split at h
   ·rename_i he
    cases h
    have:=Q9 _ _ he
    exact ⟨fun _ hv=>hv,fun _ hv=>by rw [this];exact hv⟩
   ·exact Qbfq h g hg v
theorem Qjo {ng:Cx} {i:Nat}: ∀(l m r:List AVal),mgL ng i l m=some r-> ∀(g:Inj),ng.Good g.sig-> ∀(v:List Value),(g.sig.bval i=true->LRel g l v->LRel g r v)/\(g.sig.bval i=false->LRel g m v->LRel g r v)
 |[],[],r,h,g,hg,v=>by simp only [mgL] at h;cases h;exact ⟨fun _ h=>h,fun _ h=>h⟩
 |a::l,b::m,r,h,g,hg,v=>by
  simp only [mgL] at h
  split at h
  ·rename_i x y hx hy
   cases h
   exact ⟨fun e hv=>by cases hv with|cons _ u _ w h1 h2=>exact .cons _ u _ w ((Qb3 a b x hx g hg u).1 e h1) ((Qjo l m y hy g hg w).1 e h2),
    fun e hv=>by cases hv with|cons _ u _ w h1 h2=>exact .cons _ u _ w ((Qb3 a b x hx g hg u).2 e h1) ((Qjo l m y hy g hg w).2 e h2)⟩
  ·cases h
 |[],_::_,r,h,_,_,_=>by simp [mgL] at h
 |_::_,[],r,h,_,_,_=>by simp [mgL] at h
end
theorem Q3s {ng:Cx} {i:Nat}: ∀{l m r:List AVal},mgL ng i l m=some r->r.length=l.length/\r.length=m.length
 |[],[],r,h=>by simp only [mgL] at h;cases h;simp
 |a::l,b::m,r,h=>by
  simp only [mgL] at h
  split at h
  ·rename_i x y hx hy
   cases h
   have:=Q3s hy
   simp;omega
  ·cases h
 |[],_::_,r,h=>by simp [mgL] at h
 |_::_,[],r,h=>by simp [mgL] at h
theorem Qvo {ng:Cx} {i:Nat}: ∀{l m r:List AVal},mgL ng i l m=some r-> ∀(j:Nat) (c:AVal),r[j]? =some c-> ∃a b,l[j]? =some a/\m[j]? =some b/\mgV ng i a b=some c
 |[],[],r,h,j,c,hj=>by simp only [mgL] at h;cases h;simp at hj
 |a::l,b::m,r,h,j,c,hj=>by
  simp only [mgL] at h
  split at h
  ·rename_i x y hx hy
   cases h
   cases j with
   |zero=>simp at hj;subst hj;exact ⟨a,b,by simp,by simp,hx⟩
   |succ j=>obtain ⟨p,q,h1,h2,h3⟩:=Qvo hy j c (by simpa using hj);exact ⟨p,q,by simpa using h1,by simpa using h2,h3⟩
  ·cases h
 |[],_::_,r,h,_,_,_=>by simp [mgL] at h
 |_::_,[],r,h,_,_,_=>by simp [mgL] at h
def mgOV (ng:Cx) (i:Nat):Option AVal->Option AVal->Option AVal
 |some a,some b=>mgV ng i a b
 |_,_=>none
def mgTT (ng:Cx) (i:Nat):TT->TT->TT
 |.n l v r,.n l' v' r'=> .n (mgTT ng i l l') (mgOV ng i v v') (mgTT ng i r r')
 |_,_=> .e
theorem Qp5 {ng:Cx} {i:Nat}: ∀{a b:TT} {j:Nat} {c:AVal},(mgTT ng i a b).get j=some c-> ∃x y,a.get j=some x/\b.get j=some y/\mgV ng i x y=some c
 |.e,_,_,_,h=>by simp [mgTT,TT.get] at h
 |.al _,_,_,_,h=>by simp [mgTT,TT.get] at h
 |.n _ _ _,.e,_,_,h=>by simp [mgTT,TT.get] at h
 |.n _ _ _,.al _,_,_,h=>by simp [mgTT,TT.get] at h
 |.n l v r,.n l' v' r',j,c,h=>by
  simp only [mgTT] at h
  cases j with
  |zero=>
   simp only [TT.get] at h⊢
   unfold mgOV at h
   split at h
   ·rename_i x y;exact ⟨x,y,rfl,rfl,h⟩
   ·cases h
  |succ j=>
   simp only [TT.get] at h⊢
   split at h
   ·exact Qp5 h
   ·exact Qp5 h
def mgTm (ng:Cx) (i:Nat) (a b:Tm):Option Tm:=
 match Nat.beq a.len b.len&&eqDf a.df b.df with
 |true=>some ⟨a.len,mgTT ng i a.tr b.tr,a.df⟩
 |false=>none
theorem Q3v {ng:Cx} {i:Nat} {a b t:Tm} (h:mgTm ng i a b=some t) (g:Inj) (hg:ng.Good g.sig) (c:Act):(g.sig.bval i=true->FRel g a c->FRel g t c)/\(g.sig.bval i=false->FRel g b c->FRel g t c):=by
 unfold mgTm at h
 split at h
 ·rename_i hh
  cases h
  simp only [Bool.and_eq_true] at hh
  have hl:=Nat.eq_of_beq_eq_true hh.1
  have hd:=Qoe hh.2
  constructor
  ·rintro e ⟨⟨h1,h2⟩,h3⟩
   refine ⟨⟨h1,fun j v hv=> ?_⟩,h3⟩
   have hlt:=Tm.get_lt hv
   obtain ⟨x,y,hx,hy,hm⟩:=Qp5 (Tm.get_tr hv)
   obtain ⟨u,k1,k2⟩:=h2 j x (Tm.get_of hx hlt)
   exact ⟨u,k1,(Qb3 x y v hm g hg u).1 e k2⟩
  ·rintro e ⟨⟨h1,h2⟩,h3⟩
   refine ⟨⟨by simp only;omega,fun j v hv=> ?_⟩,by simp only [hd];exact h3⟩
   have hlt:=Tm.get_lt hv
   obtain ⟨x,y,hx,hy,hm⟩:=Qp5 (Tm.get_tr hv)
   obtain ⟨u,k1,k2⟩:=h2 j y (Tm.get_of hy (by simp only at hlt;omega))
   exact ⟨u,k1,(Qb3 x y v hm g hg u).2 e k2⟩
 ·cases h
def Qo2:LoopState->Bool
 |.ready=>true
 |_=>false
def mgB (ng:Cx) (i:Nat):Blk->Blk->Blk
 |.cells c e,.cells c' e'=>match Nat.beq e e' with
  |true=>match mgL ng i c c' with
   |some r=> .cells r e
   |none=> .gone
  |false=> .gone
 |.map l,.map m=>match eqM l m with
  |true=> .map l
  |false=> .gone
 |.loop a,.loop b=>match Qo2 a.st&&Qo2 b.st&&a.pend.isNone&&b.pend.isNone with
  |true=> .loop a
  |false=> .gone
 |.dfr,.dfr=> .dfr
 |.iter x l c,.iter x' l' c'=>match Nat.beq x x'&&(eqM l l'&&eqM c.toList c'.toList) with
  |true=> .iter x l c
  |false=> .gone
 |.lst s n cl e,.lst s' n' cl' e'=>match Nat.beq e e'&&decide (cl=cl') with
  |true=>match mgV ng i s s',mgV ng i n n' with
   |some x,some y=>match isNt x&&isNt y with
    |true=> .lst x y cl e
    |false=> .gone
   |_,_=> .gone
  |false=> .gone
 |_,_=> .gone
def BTo (g:Inj) (w:World) (k k':Blk):Prop:=(∀L,BRel g w k L->BRel g w k' L)/\(Qb6 g k->Qb6 g k')
theorem BTo.refl {g:Inj} {w:World} {k:Blk}:BTo g w k k:=⟨fun _ h=>h,fun h=>h⟩
theorem Qb6.not {g:Inj} {k:Blk} (h:Qb6 g k) (hk:Qft k=false):False:=by rw [h.lst] at hk;cases hk
def mgOB (ng:Cx) (i:Nat):Option Blk->Option Blk->Blk
 |some a,some b=>mgB ng i a b
 |_,_=> .gone
theorem Q0t {s:LoopState} (h:Qo2 s=true):s=.ready:=by
 unfold Qo2 at h
 split at h
 ·rfl
 ·cases h
theorem Q3o {ng:Cx} {i:Nat} {a b:Blk} (g:Inj) (hg:ng.Good g.sig) (w:World) (L:Loc) (hl: ∀x y,a=.loop x->b=.loop y->Qj2 y x) (ha:Qft a=false):
  (g.sig.bval i=true->BRel g w a L->BRel g w (mgB ng i a b) L)/\(g.sig.bval i=false->BRel g w b L->BRel g w (mgB ng i a b) L):=by
 unfold mgB
 split
 ·rename_i c e c' e'
  split
  ·rename_i he
   have he:=Nat.eq_of_beq_eq_true he
   subst he
   split
   ·rename_i r hr
    have hln:=Q3s hr
    constructor
    ·rintro h1 ⟨C,fr,k1,k2,k3,k4,k5⟩
     refine ⟨C,fr,k1,k2,k3,by omega,fun j x hj=> ?_⟩
     obtain ⟨p,q,hp,hq,hm⟩:=Qvo hr j x hj
     obtain ⟨v,m1,m2,m3⟩:=k5 j p hp
     exact ⟨v,m1,(Qb3 p q x hm g hg v).1 h1 m2,m3⟩
    ·rintro h1 ⟨C,fr,k1,k2,k3,k4,k5⟩
     refine ⟨C,fr,k1,k2,k3,by omega,fun j x hj=> ?_⟩
     obtain ⟨p,q,hp,hq,hm⟩:=Qvo hr j x hj
     obtain ⟨v,m1,m2,m3⟩:=k5 j q hq
     exact ⟨v,m1,(Qb3 p q x hm g hg v).2 h1 m2,m3⟩
   ·exact ⟨fun _ _=>trivial,fun _ _=>trivial⟩
  ·exact ⟨fun _ _=>trivial,fun _ _=>trivial⟩
 ·split
  ·rename_i he
   exact ⟨fun _ h=>h,fun _ h=>by rw [Qi1 he];exact h⟩
  ·exact ⟨fun _ _=>trivial,fun _ _=>trivial⟩
 ·rename_i x y
  split
  ·rename_i hh
   simp only [Bool.and_eq_true,Option.isNone_iff_eq_none] at hh
   obtain ⟨⟨⟨s1,s2⟩,p1⟩,p2⟩:=hh
   obtain ⟨e1,e2,e3,e4,e5⟩:=hl x y rfl rfl
   refine ⟨fun _ h=>h,fun _ h=> ?_⟩
   obtain ⟨r,h1,h2,h3,h4,h5,h6,h7,D,h8,h9⟩:=h
   exact ⟨r,h1,by rw [h2,Q0t s1,Q0t s2],by rw [h3,p1,p2],by rw [e1];exact h4,by rw [e2];exact h5,by rw [e3];exact h6,by rw [e4];exact h7,D,by rw [e5];exact h8,h9⟩
  ·exact ⟨fun _ _=>trivial,fun _ _=>trivial⟩
 ·exact ⟨fun _ h=>h,fun _ h=>h⟩
 ·split
  ·rename_i he
   simp only [Bool.and_eq_true] at he
   rw [Nat.eq_of_beq_eq_true he.1,Qi1 he.2.1,Qzh he.2.2]
   exact ⟨fun _ h=>h,fun _ h=>h⟩
  ·exact ⟨fun _ _=>trivial,fun _ _=>trivial⟩
 ·cases ha
 ·exact ⟨fun _ _=>trivial,fun _ _=>trivial⟩
theorem Q3e {g:Inj} {w:World} {s n s' n':AVal} {cl:List (Option IntKind)} {e:TypeId} (h1: ∀S,den g.sig s=.str S->den g.sig s'=.str S) (h2: ∀N,den g.sig n=.int .i64 N->den g.sig n'=.int .i64 N):BTo g w (.lst s n cl e) (.lst s' n' cl e):=by
 refine ⟨fun L h=> ?_,fun h=> ?_⟩
 ·obtain ⟨S,N,C,fr,e9,k1,k2,k3⟩:=h
  exact ⟨S,N,C,fr,e9,h1 _ k1,h2 _ k2,k3⟩
 ·obtain ⟨_,_,_,_,k0,k1,k2⟩:=h
  cases k0
  exact ⟨_,_,_,_,rfl,h1 _ k1,h2 _ k2⟩
theorem Q3p {ng:Cx} {i:Nat} {a b:Blk} (g:Inj) (hg:ng.Good g.sig) (w:World) (hl: ∀x y,a=.loop x->b=.loop y->Qj2 y x) (hn:mgB ng i a b≠.gone):
  (g.sig.bval i=true->BTo g w a (mgB ng i a b))/\(g.sig.bval i=false->BTo g w b (mgB ng i a b)):=by
 by_cases hlst:Qft a=true
 ·cases a<;>try (cases hlst;done)
  rename_i s n cl e
  cases b<;>try exact absurd rfl hn
  rename_i s' n' cl' e'
  simp only [mgB] at hn⊢
  split at hn
  ·rename_i he
   simp only [Bool.and_eq_true,decide_eq_true_eq] at he
   have e1:=Nat.eq_of_beq_eq_true he.1
   have e2:=he.2
   subst e1;subst e2
   split at hn
   ·rename_i x y hx hy
    split at hn
    ·rename_i hnt
     simp only [Bool.and_eq_true] at hnt
     refine ⟨fun h=> ?_,fun h=> ?_⟩
     ·exact Q3e (fun S k=>Qyq hnt.1 ((Qb3 s s' x hx g hg _).1 h (Q6d k))) (fun N k=>Qgm hnt.2 ((Qb3 n n' y hy g hg _).1 h (Qgu k)))
     ·exact Q3e (fun S k=>Qyq hnt.1 ((Qb3 s s' x hx g hg _).2 h (Q6d k))) (fun N k=>Qgm hnt.2 ((Qb3 n n' y hy g hg _).2 h (Qgu k)))
    ·exact absurd rfl hn
   ·exact absurd rfl hn
  ·exact absurd rfl hn
 ·have ha:Qft a=false:=by simpa using hlst
  have hb:Qft b=false:=by
   cases hb:Qft b with
   |false=>rfl
   |true=>
    cases b<;>try (cases hb;done)
    exact absurd (by cases a<;>first|rfl|(cases ha;done)) hn
  exact ⟨fun h=>⟨fun L=>(Q3o g hg w L hl ha).1 h,fun hz=>(hz.not ha).elim⟩,fun h=>⟨fun L=>(Q3o g hg w L hl ha).2 h,fun hz=>(hz.not hb).elim⟩⟩
theorem Q3n {ng:Cx} {i:Nat} {a b:Blk} {l:LoopA} (h:mgB ng i a b=.loop l):a=.loop l:=by
 unfold mgB at h
 split at h
 ·split at h
  ·split at h<;>cases h
  ·cases h
 ·split at h<;>cases h
 ·split at h
  ·exact h
  ·cases h
 ·cases h
 ·split at h<;>cases h
 ·split at h
  ·split at h
   ·split at h<;>cases h
   ·cases h
  ·cases h
 ·cases h
theorem Q3m {ng:Cx} {i:Nat} {a b:Blk} (h:mgB ng i a b≠.gone):a≠.gone/\b≠.gone:=by
 constructor
 ·rintro rfl;exact h (by cases b<;>rfl)
 ·rintro rfl;exact h (by cases a<;>rfl)
def Qg4 (ng:Cx) (i n:Nat) (A B:List Blk):List Nat->List Blk->List Blk
 |[],H=>H
 |j::ids,H=>match Nat.blt j n with
  |true=>Qg4 ng i n A B ids (H.set j (mgOB ng i (A[j]?) (B[j]?)))
  |false=>Qg4 ng i n A B ids H
def mgN (ng:Cx) (i:Nat):Blk->Blk->Blk
 |.loop _,_=> .gone
 |a,b=>mgB ng i a b
def Qdq (ng:Cx) (i:Nat):List Blk->List Blk->List Blk
 |[],m=>m.map fun _=> .gone
 |l,[]=>l.map fun _=> .gone
 |a::l,b::m=>mgN ng i a b::Qdq ng i l m
def mgH (ng:Cx) (i n:Nat) (A B:List Blk) (ids:List Nat):List Blk:=Qg4 ng i n A B ids (A.take n++Qdq ng i (A.drop n) (B.drop n))
def mgHp (ng:Cx) (i:Nat) (h0 a b:Hp):Hp:=
 ⟨mgH ng i h0.heap.length a.heap b.heap (a.log.take (a.log.length-h0.log.length)++b.log.take (b.log.length-h0.log.length)),
  a.log.take (a.log.length-h0.log.length)++b.log.take (b.log.length-h0.log.length)++h0.log⟩
theorem Qvn {ng:Cx} {i n:Nat} {A B:List Blk}: ∀(ids:List Nat) (H:List Blk),(Qg4 ng i n A B ids H).length=H.length
 |[],_=>rfl
 |j::ids,H=>by
  simp only [Qg4]
  split
  ·rw [Qvn ids];simp
  ·rw [Qvn ids]
theorem Qp2 {ng:Cx} {i n:Nat} {A B:List Blk}: ∀(ids:List Nat) (H:List Blk) (j:Nat),(j<n/\j∈ids/\(Qg4 ng i n A B ids H)[j]? =if j<H.length then some (mgOB ng i (A[j]?) (B[j]?)) else none)\/((n<=j\/j∉ids)/\(Qg4 ng i n A B ids H)[j]? =H[j]?)
 |[],H,j=> .inr ⟨.inr (by simp),rfl⟩
 |k::ids,H,j=>by
  simp only [Qg4]
  split
  ·rename_i hk
   have hk:k<n:=by rw [Nat.blt_eq] at hk;exact hk
   rcases Qp2 (A:=A) (B:=B) ids (H.set k (mgOB ng i (A[k]?) (B[k]?))) j with ⟨h1,h2,h3⟩|⟨h1,h2⟩
   ·exact .inl ⟨h1,by simp [h2],by rw [h3];simp⟩
   ·by_cases hjk:j=k
    ·subst hjk
     refine .inl ⟨hk,by simp,?_⟩
     rw [h2,List.getElem?_set]
     simp
    ·refine .inr ⟨?_,by rw [h2,List.getElem?_set_ne (Ne.symm hjk)]⟩
     rcases h1 with h1|h1
     ·exact .inl h1
     ·exact .inr (by simp [hjk,h1])
  ·rename_i hk
   have hk:n<=k:=by
    have: ¬(k<n):=fun h=>by rw [<-Nat.blt_eq] at h;rw [h] at hk;cases hk
    omega
   rcases Qp2 (A:=A) (B:=B) ids H j with ⟨h1,h2,h3⟩|⟨h1,h2⟩
   ·exact .inl ⟨h1,by simp [h2],h3⟩
   ·refine .inr ⟨?_,h2⟩
    rcases h1 with h1|h1
    ·exact .inl h1
    ·by_cases hjk:j=k
     ·exact .inl (by omega)
     ·exact .inr (by simp [hjk,h1])
theorem Q3t {ng:Cx} {i:Nat}: ∀(l m:List Blk) (j:Nat) (k:Blk),(Qdq ng i l m)[j]? =some k->k≠.gone-> ∃a b,l[j]? =some a/\m[j]? =some b/\k=mgN ng i a b
 |[],m,j,k,h,hk=>by
  simp only [Qdq,List.getElem?_map,Option.map_eq_some_iff] at h
  obtain ⟨_,_,rfl⟩:=h
  exact absurd rfl hk
 |a::l,[],j,k,h,hk=>by
  simp only [Qdq,List.getElem?_map,Option.map_eq_some_iff] at h
  obtain ⟨_,_,rfl⟩:=h
  exact absurd rfl hk
 |a::l,b::m,j,k,h,hk=>by
  simp only [Qdq] at h
  cases j with
  |zero=>simp at h;subst h;exact ⟨a,b,by simp,by simp,rfl⟩
  |succ j=>obtain ⟨x,y,h1,h2,h3⟩:=Q3t l m j k (by simpa using h) hk;exact ⟨x,y,by simpa using h1,by simpa using h2,h3⟩
theorem Q3u {ng:Cx} {i:Nat}: ∀(l m:List Blk),l.length<=(Qdq ng i l m).length/\m.length<=(Qdq ng i l m).length
 |[],m=>by simp [Qdq]
 |a::l,[]=>by simp [Qdq]
 |a::l,b::m=>by
  have:=Q3u (ng:=ng) (i:=i) l m
  simp [Qdq];omega
theorem Q3r {ng:Cx} {i:Nat} {h0 a b:Hp} (ta:Touch h0 a) (tb:Touch h0 b):a.heap.length<=(mgHp ng i h0 a b).heap.length/\b.heap.length<=(mgHp ng i h0 a b).heap.length:=by
 have h1:=Q3u (ng:=ng) (i:=i) (a.heap.drop h0.heap.length) (b.heap.drop h0.heap.length)
 have hla:=ta.len
 have hlb:=tb.len
 simp only [List.length_drop] at h1
 simp only [mgHp,mgH,Qvn,List.length_append,List.length_take]
 omega
theorem Qjm {ng:Cx} {i:Nat} {h0 a b:Hp} (ta:Touch h0 a) (tb:Touch h0 b) (j:Nat) (k':Blk) (h:(mgHp ng i h0 a b).heap[j]? =some k') (hk:k'≠.gone):
  ∃x y,a.heap[j]? =some x/\b.heap[j]? =some y/\x≠.gone/\y≠.gone/\(∀la,k'=Blk.loop la->x=Blk.loop la)/\
   ∀(g:Inj),ng.Good g.sig-> ∀(w:World),(g.sig.bval i=true->BTo g w x k')/\(g.sig.bval i=false->BTo g w y k'):=by
 obtain ⟨pa,ea,fa⟩:=ta.log
 obtain ⟨pb,eb,fb⟩:=tb.log
 have hla:=ta.len
 have hlb:=tb.len
 have hloop: ∀p q,a.heap[j]? =some (.loop p)->b.heap[j]? =some (.loop q)->j<h0.heap.length->Qj2 q p:=by
  intro p q hx hy hj
  obtain ⟨l0,hl0,e1,e2,e3,e4,e5⟩:=ta.loops j p hj hx
  obtain ⟨l1,hl1,f1,f2,f3,f4,f5⟩:=tb.loops j q hj hy
  rw [hl0] at hl1;cases hl1
  exact ⟨e1.trans f1.symm,e2.trans f2.symm,e3.trans f3.symm,e4.trans f4.symm,e5.trans f5.symm⟩
 simp only [mgHp,mgH,ea,eb,Qna] at h
 rcases Qp2 (ng:=ng) (i:=i) (A:=a.heap) (B:=b.heap) (n:=h0.heap.length) (pa++pb) (a.heap.take h0.heap.length++Qdq ng i (a.heap.drop h0.heap.length) (b.heap.drop h0.heap.length)) j with ⟨h1,h2,h3⟩|⟨h1,h2⟩
 ·rw [h3] at h
  split at h
  ·cases h
   obtain ⟨x,hx⟩: ∃x,a.heap[j]? =some x:=⟨_,List.getElem?_eq_getElem (by omega)⟩
   obtain ⟨y,hy⟩: ∃y,b.heap[j]? =some y:=⟨_,List.getElem?_eq_getElem (by omega)⟩
   rw [hx,hy] at hk⊢
   obtain ⟨n1,n2⟩:=Q3m hk
   exact ⟨x,y,rfl,rfl,n1,n2,fun la e=>Q3n e,fun g hg w=>Q3p g hg w (fun p q e1 e2=>hloop p q (by rw [hx,e1]) (by rw [hy,e2]) h1) hk⟩
  ·cases h
 ·rw [h2] at h
  rcases Nat.lt_or_ge j h0.heap.length with h9|h9
  ·rw [List.getElem?_append_left (by simp;omega),List.getElem?_take,if_pos h9] at h
   have hn:j∉pa++pb:=by
    rcases h1 with h1|h1
    ·omega
    ·exact h1
   simp only [List.mem_append,not_or] at hn
   have ha:=fa j h9 hn.1
   have hb:=fb j h9 hn.2
   exact ⟨k',k',h,by rw [hb,<-ha];exact h,hk,hk,fun la e=>e,fun g hg w=>⟨fun _=> .refl,fun _=> .refl⟩⟩
  ·have hlt:(a.heap.take h0.heap.length).length=h0.heap.length:=by simp;omega
   rw [List.getElem?_append_right (by omega),hlt] at h
   obtain ⟨x,y,hx,hy,rfl⟩:=Q3t _ _ _ _ h hk
   simp only [List.getElem?_drop] at hx hy
   rw [show h0.heap.length+(j-h0.heap.length)=j by omega] at hx hy
   unfold mgN at hk⊢
   split at hk
   ·exact absurd rfl hk
   ·rename_i hne
    obtain ⟨n1,n2⟩:=Q3m hk
    refine ⟨x,y,hx,hy,n1,n2,fun la e=>Q3n e,fun g hg w=> ?_⟩
    have:=Q3p (i:=i) (a:=x) (b:=y) g hg w (fun p q e1 e2=>(hne p e1).elim) hk
    exact this
theorem Qbfm {ng:Cx} {i:Nat} {h0 a b:Hp} (ta:Touch h0 a) (tb:Touch h0 b):Touch h0 (mgHp ng i h0 a b):=by
 obtain ⟨pa,ea,fa⟩:=ta.log
 obtain ⟨pb,eb,fb⟩:=tb.log
 have hla:=ta.len
 have hlb:=tb.len
 refine ⟨Nat.le_trans hla (Q3r ta tb).1,⟨pa++pb,by simp only [mgHp,ea,eb,Qna],fun j hj hn=> ?_⟩,fun j hj ⟨k,hk,hne⟩=> ?_,fun j la hj hla=> ?_⟩
 ·simp only [mgHp,mgH,ea,eb,Qna]
  rcases Qp2 (ng:=ng) (i:=i) (A:=a.heap) (B:=b.heap) (n:=h0.heap.length) (pa++pb) (a.heap.take h0.heap.length++Qdq ng i (a.heap.drop h0.heap.length) (b.heap.drop h0.heap.length)) j with ⟨h1,h2,h3⟩|⟨h1,h2⟩
  ·exact absurd h2 hn
  ·rw [h2,List.getElem?_append_left (by simp;omega),List.getElem?_take,if_pos hj]
   simp only [List.mem_append,not_or] at hn
   exact fa j hj hn.1
 ·obtain ⟨x,y,h1,h2,h3,h4,_,_⟩:=Qjm ta tb j k hk hne
  exact ta.live j hj ⟨x,h1,h3⟩
 ·obtain ⟨x,y,h1,h2,h3,h4,h5,_⟩:=Qjm ta tb j _ hla (by simp)
  exact ta.loops j la hj (by rw [h1,h5 la rfl])
theorem Qbfl {ng:Cx} {i:Nat} {h0 a b:Hp} (ta:Touch h0 a) (tb:Touch h0 b) {g0 g:Inj} {w0 w:World}:
  (g.sig.bval i=true->HRel ng g a.heap w->Ext g0 h0.heap w0 g a.heap w->HRel ng g (mgHp ng i h0 a b).heap w/\Ext g0 h0.heap w0 g (mgHp ng i h0 a b).heap w)/\
  (g.sig.bval i=false->HRel ng g b.heap w->Ext g0 h0.heap w0 g b.heap w->HRel ng g (mgHp ng i h0 a b).heap w/\Ext g0 h0.heap w0 g (mgHp ng i h0 a b).heap w):=by
 have hl:=Q3r (ng:=ng) (i:=i) ta tb
 constructor
 ·intro e hH hE
  refine ⟨hH.relax hl.1 fun j k' hk hn=> ?_,hE.relax hl.1 fun j ⟨k',hk,hn⟩=> ?_⟩
  ·obtain ⟨x,y,h1,h2,h3,h4,_,h5⟩:=Qjm ta tb j k' hk hn
   exact ⟨x,h1,h3,(h5 g hH.sig w).1 e⟩
  ·obtain ⟨x,y,h1,h2,h3,h4,_,h5⟩:=Qjm ta tb j k' hk hn
   exact ⟨x,h1,h3⟩
 ·intro e hH hE
  refine ⟨hH.relax hl.2 fun j k' hk hn=> ?_,hE.relax hl.2 fun j ⟨k',hk,hn⟩=> ?_⟩
  ·obtain ⟨x,y,h1,h2,h3,h4,_,h5⟩:=Qjm ta tb j k' hk hn
   exact ⟨y,h2,h4,(h5 g hH.sig w).2 e⟩
  ·obtain ⟨x,y,h1,h2,h3,h4,_,h5⟩:=Qjm ta tb j k' hk hn
   exact ⟨y,h2,h4⟩
def AllT {α:Type} (Q:α->Prop):Tree α->Prop
 |.leaf a=>Q a
 |.node _ y n=>AllT Q y/\AllT Q n
 |.pick _ _ y n=>AllT Q y/\AllT Q n
 |.or y n=>AllT Q y/\AllT Q n
 |.req _ t=>AllT Q t
 |.dead=>True
theorem AllT.mono {α:Type} {Q Q':α->Prop} (hq: ∀a,Q a->Q' a): ∀{T:Tree α},AllT Q T->AllT Q' T
 |.leaf _,h=>hq _ h
 |.node _ _ _,h=>⟨AllT.mono hq h.1,AllT.mono hq h.2⟩
 |.pick _ _ _ _,h=>⟨AllT.mono hq h.1,AllT.mono hq h.2⟩
 |.or _ _,h=>⟨AllT.mono hq h.1,AllT.mono hq h.2⟩
 |.req _ t,h=>AllT.mono hq (T:=t) h
 |.dead,_=>trivial
theorem Qb7 {α β:Type} {Q:α->Prop} {Q':β->Prop} {k:List Fact->α->Tree β} (hk: ∀F a,Q a->AllT Q' (k F a)): ∀{T:Tree α} {F:List Fact},AllT Q T->AllT Q' (Qbb F T k)
 |.leaf _,_,h=>hk _ _ h
 |.node _ _ _,_,h=>⟨Qb7 hk h.1,Qb7 hk h.2⟩
 |.pick _ _ _ _,_,h=>⟨Qb7 hk h.1,Qb7 hk h.2⟩
 |.or _ _,_,h=>⟨Qb7 hk h.1,Qb7 hk h.2⟩
 |.req _ t,F,h=>Qb7 hk (T:=t) (F:=F) h
 |.dead,_,_=>trivial
def obN (i:Nat):Ob->Ob->Ob
 |.ok,.ok=> .ok
 |y,n=> .node i y n
def obP (i:Nat) (k:Int):Ob->Ob->Ob
 |.ok,.ok=> .ok
 |y,n=> .pick i k y n
theorem Qbf6 {σ:Sig} {i:Nat} {y n:Ob} (h:(obN i y n).Sat σ):(σ.bval i=true->y.Sat σ)/\(σ.bval i=false->n.Sat σ):=by
 unfold obN at h
 split at h
 ·exact ⟨fun _=>trivial,fun _=>trivial⟩
 ·exact h
theorem Qbf7 {σ:Sig} {i:Nat} {k:Int} {y n:Ob} (h:(obP i k y n).Sat σ):(σ.ival i=k->y.Sat σ)/\(σ.ival i≠k->n.Sat σ):=by
 unfold obP at h
 split at h
 ·exact ⟨fun _=>trivial,fun _=>trivial⟩
 ·exact h
def Qln {α:Type}:Tree α->Bool
 |.dead=>true
 |_=>false
theorem Qox {α:Type} {T:Tree α} (h:Qln T=true):T=.dead:=by
 cases T<;>first|rfl|cases h
def oneT {α:Type}:Tree α->Option (Ob×α)
 |.leaf a=>some (.ok,a)
 |.req o t=>match oneT t with
  |some (.ok,a)=>some (o,a)
  |_=>none
 |.node i y n=>match Qln n with
  |true=>match oneT y with
   |some (o,a)=>some (.node i o .no,a)
   |none=>none
  |false=>match Qln y with
   |true=>match oneT n with
    |some (o,a)=>some (.node i .no o,a)
    |none=>none
   |false=>none
 |.pick i k y n=>match Qln n with
  |true=>match oneT y with
   |some (o,a)=>some (.pick i k o .no,a)
   |none=>none
  |false=>match Qln y with
   |true=>match oneT n with
    |some (o,a)=>some (.pick i k .no o,a)
    |none=>none
   |false=>none
 |_=>none
def reqT {α:Type}:Ob->α->Tree α
 |.ok,a=> .leaf a
 |o,a=> .req o (.leaf a)
def Qpb {α:Type}:Tree α->Option α
 |.leaf a=>some a
 |_=>none
def mgT {α:Type} (f:Nat->α->α->Option α) (fp:Nat->Int->α->α->Option α) (fo:α->α->Option α):Tree α->Tree α
 |.leaf a=> .leaf a
 |.node i y n=>match oneT (mgT f fp fo y),oneT (mgT f fp fo n) with
  |some (oy,a),some (on,b)=>match f i a b with
   |some c=>reqT (obN i oy on) c
   |none=> .node i (mgT f fp fo y) (mgT f fp fo n)
  |_,_=> .node i (mgT f fp fo y) (mgT f fp fo n)
 |.pick i k y n=>match oneT (mgT f fp fo y),oneT (mgT f fp fo n) with
  |some (oy,a),some (on,b)=>match fp i k a b with
   |some c=>reqT (obP i k oy on) c
   |none=> .pick i k (mgT f fp fo y) (mgT f fp fo n)
  |_,_=> .pick i k (mgT f fp fo y) (mgT f fp fo n)
 |.or y n=>match Qpb (mgT f fp fo y),Qpb (mgT f fp fo n) with
  |some a,some b=>match fo a b with
   |some c=> .leaf c
   |none=> .or (mgT f fp fo y) (mgT f fp fo n)
  |_,_=> .or (mgT f fp fo y) (mgT f fp fo n)
 |.req o t=> .req o (mgT f fp fo t)
 |.dead=> .dead
theorem Qf8 {α:Type} {σ:Sig} {Q:α->Prop}: ∀{T:Tree α} {o:Ob} {a:α},oneT T=some (o,a)->o.Sat σ->Q a->Sat σ Q T
 |.leaf _,_,_,h,_,q=>by simp only [oneT] at h;cases h;exact q
 |.req o t,_,_,h,ho,q=>by
  simp only [oneT] at h
  split at h
  ·rename_i a' ht
   cases h
   exact ⟨ho,Qf8 ht trivial q⟩
  ·cases h
 |.node i y n,o,a,h,ho,q=>by
  simp only [oneT] at h
  split at h
  ·rename_i hd
   have:=Qox hd
   subst this
   split at h
   ·rename_i o' a' hy
    cases h
    exact ⟨fun e=>Qf8 hy (ho.1 e) q,fun e=>ho.2 e⟩
   ·cases h
  ·split at h
   ·rename_i hd
    have:=Qox hd
    subst this
    split at h
    ·rename_i o' a' hy
     cases h
     exact ⟨fun e=>ho.1 e,fun e=>Qf8 hy (ho.2 e) q⟩
    ·cases h
   ·cases h
 |.pick i k y n,o,a,h,ho,q=>by
  simp only [oneT] at h
  split at h
  ·rename_i hd
   have:=Qox hd
   subst this
   split at h
   ·rename_i o' a' hy
    cases h
    exact ⟨fun e=>Qf8 hy (ho.1 e) q,fun e=>ho.2 e⟩
   ·cases h
  ·split at h
   ·rename_i hd
    have:=Qox hd
    subst this
    split at h
    ·rename_i o' a' hy
     cases h
     exact ⟨fun e=>ho.1 e,fun e=>Qf8 hy (ho.2 e) q⟩
    ·cases h
   ·cases h
 |.dead,_,_,h,_,_=>by simp [oneT] at h
 |.or _ _,_,_,h,_,_=>by simp [oneT] at h
theorem Qf7 {α:Type} {S:α->Prop}: ∀{T:Tree α} {o:Ob} {a:α},oneT T=some (o,a)->AllT S T->S a
 |.leaf _,_,_,h,q=>by simp only [oneT] at h;cases h;exact q
 |.req o t,_,_,h,q=>by
  simp only [oneT] at h
  split at h
  ·rename_i a' ht;cases h;exact Qf7 ht q
  ·cases h
 |.node i y n,o,a,h,q=>by
  simp only [oneT] at h
  split at h
  ·split at h
   ·rename_i o' a' hy;cases h;exact Qf7 hy q.1
   ·cases h
  ·split at h
   ·split at h
    ·rename_i o' a' hy;cases h;exact Qf7 hy q.2
    ·cases h
   ·cases h
 |.pick i k y n,o,a,h,q=>by
  simp only [oneT] at h
  split at h
  ·split at h
   ·rename_i o' a' hy;cases h;exact Qf7 hy q.1
   ·cases h
  ·split at h
   ·split at h
    ·rename_i o' a' hy;cases h;exact Qf7 hy q.2
    ·cases h
   ·cases h
 |.dead,_,_,h,_=>by simp [oneT] at h
 |.or _ _,_,_,h,_=>by simp [oneT] at h
theorem Q5b {α:Type} {σ:Sig} {Q:α->Prop} {o:Ob} {a:α} (h:Sat σ Q (reqT o a)):o.Sat σ/\Q a:=by
 unfold reqT at h
 split at h
 ·exact ⟨trivial,h⟩
 ·exact h
theorem Q5a {α:Type} {S:α->Prop} {o:Ob} {a:α} (h:S a):AllT S (reqT o a):=by
 unfold reqT
 split<;>exact h
theorem Q02 {α:Type} {T:Tree α} {a:α} (h:Qpb T=some a):T=.leaf a:=by
 unfold Qpb at h
 split at h
 ·cases h;rfl
 ·cases h
theorem Qfa {α:Type} {σ:Sig} {W:α->α->Prop} {S:α->Prop} {f:Nat->α->α->Option α} {fp:Nat->Int->α->α->Option α} {fo:α->α->Option α} (hr: ∀a,W a a) (htr: ∀a b c,W a b->W b c->W a c)
  (hf: ∀i a b c,S a->S b->f i a b=some c->S c/\(σ.bval i=true->W a c)/\(σ.bval i=false->W b c))
  (hs: ∀i k a b c,S a->S b->fp i k a b=some c->S c/\(σ.ival i=k->W a c)/\(σ.ival i≠k->W b c))
  (ho: ∀a b c,S a->S b->fo a b=some c->S c/\W a c/\W b c):
  ∀{T:Tree α},AllT S T->AllT S (mgT f fp fo T)/\ ∀Q:α->Prop,Sat σ Q (mgT f fp fo T)->Sat σ (fun a=> ∃c,Q c/\W a c) T
 |.leaf a,h=>⟨h,fun Q q=>⟨a,q,hr a⟩⟩
 |.dead,h=>⟨h,fun Q q=>q⟩
 |.req o t,h=>by
  obtain ⟨a1,a2⟩:=Qfa hr htr hf hs ho (T:=t) h
  exact ⟨a1,fun Q q=>⟨q.1,a2 Q q.2⟩⟩
 |.or y n,h=>by
  obtain ⟨a1,a2⟩:=Qfa hr htr hf hs ho h.1
  obtain ⟨b1,b2⟩:=Qfa hr htr hf hs ho h.2
  have keep:AllT S (Tree.or (mgT f fp fo y) (mgT f fp fo n))/\ ∀Q:α->Prop,Sat σ Q (Tree.or (mgT f fp fo y) (mgT f fp fo n))->Sat σ (fun a=> ∃c,Q c/\W a c) (Tree.or y n):=⟨⟨a1,b1⟩,fun Q q=>⟨a2 Q q.1,b2 Q q.2⟩⟩
  simp only [mgT]
  split
  ·rename_i a b ha hb
   split
   ·rename_i c hc
    have ea:=Q02 ha
    have eb:=Q02 hb
    rw [ea] at a1 a2
    rw [eb] at b1 b2
    obtain ⟨k1,k2,k3⟩:=ho a b c a1 b1 hc
    refine ⟨k1,fun Q q=>⟨(a2 (fun x=>x=a) rfl).mono ?_,(b2 (fun x=>x=b) rfl).mono ?_⟩⟩
    ·rintro x ⟨c',rfl,hw⟩
     exact ⟨c,q,htr _ _ _ hw k2⟩
    ·rintro x ⟨c',rfl,hw⟩
     exact ⟨c,q,htr _ _ _ hw k3⟩
   ·exact keep
  ·exact keep
 |.pick i k y n,h=>by
  obtain ⟨a1,a2⟩:=Qfa hr htr hf hs ho h.1
  obtain ⟨b1,b2⟩:=Qfa hr htr hf hs ho h.2
  have keep:AllT S (Tree.pick i k (mgT f fp fo y) (mgT f fp fo n))/\ ∀Q:α->Prop,Sat σ Q (Tree.pick i k (mgT f fp fo y) (mgT f fp fo n))->Sat σ (fun a=> ∃c,Q c/\W a c) (Tree.pick i k y n):=
   ⟨⟨a1,b1⟩,fun Q q=>⟨fun e=>a2 Q (q.1 e),fun e=>b2 Q (q.2 e)⟩⟩
  simp only [mgT]
  split
  ·rename_i oy a on b ha hb
   split
   ·rename_i c hc
    obtain ⟨sc,w1,w2⟩:=hs i k a b c (Qf7 ha a1) (Qf7 hb b1) hc
    refine ⟨Q5a sc,fun Q q=> ?_⟩
    obtain ⟨q1,q2⟩:=Q5b q
    have q1:=Qbf7 q1
    exact ⟨fun e=>(a2 (fun x=>x=a) (Qf8 ha (q1.1 e) rfl)).mono fun x ⟨c',e',hw⟩=>⟨c,q2,htr _ _ _ hw (by rw [e'];exact w1 e)⟩,
     fun e=>(b2 (fun x=>x=b) (Qf8 hb (q1.2 e) rfl)).mono fun x ⟨c',e',hw⟩=>⟨c,q2,htr _ _ _ hw (by rw [e'];exact w2 e)⟩⟩
   ·exact keep
  ·exact keep
 |.node i y n,h=>by
  obtain ⟨a1,a2⟩:=Qfa hr htr hf hs ho h.1
  obtain ⟨b1,b2⟩:=Qfa hr htr hf hs ho h.2
  have keep:AllT S (Tree.node i (mgT f fp fo y) (mgT f fp fo n))/\ ∀Q:α->Prop,Sat σ Q (Tree.node i (mgT f fp fo y) (mgT f fp fo n))->Sat σ (fun a=> ∃c,Q c/\W a c) (Tree.node i y n):=
   ⟨⟨a1,b1⟩,fun Q q=>⟨fun e=>a2 Q (q.1 e),fun e=>b2 Q (q.2 e)⟩⟩
  simp only [mgT]
  split
  ·rename_i oy a on b ha hb
   split
   ·rename_i c hc
    obtain ⟨sc,w1,w2⟩:=hf i a b c (Qf7 ha a1) (Qf7 hb b1) hc
    refine ⟨Q5a sc,fun Q q=> ?_⟩
    obtain ⟨q1,q2⟩:=Q5b q
    have q1:=Qbf6 q1
    exact ⟨fun e=>(a2 (fun x=>x=a) (Qf8 ha (q1.1 e) rfl)).mono fun x ⟨c',e',hw⟩=>⟨c,q2,htr _ _ _ hw (by rw [e'];exact w1 e)⟩,
     fun e=>(b2 (fun x=>x=b) (Qf8 hb (q1.2 e) rfl)).mono fun x ⟨c',e',hw⟩=>⟨c,q2,htr _ _ _ hw (by rw [e'];exact w2 e)⟩⟩
   ·exact keep
  ·exact keep
end Go.Ev
namespace Go.Ev
def mgHq (ng:Cx) (i:Nat) (h0 a b:Hp):Hp:=
 match Nat.beq a.log.length h0.log.length&&(Nat.beq b.log.length h0.log.length&&(Nat.beq a.heap.length h0.heap.length&&Nat.beq b.heap.length h0.heap.length)) with
 |true=>h0
 |false=>mgHp ng i h0 a b
theorem Qxd {h0 a:Hp} (ta:Touch h0 a) (h1:a.log.length=h0.log.length) (h2:a.heap.length=h0.heap.length):a.heap=h0.heap:=by
 obtain ⟨pa,ea,fa⟩:=ta.log
 have:pa=[]:=by
  rw [ea,List.length_append] at h1
  exact List.length_eq_zero_iff.1 (by omega)
 subst this
 apply List.ext_getElem?
 intro j
 rcases Nat.lt_or_ge j h0.heap.length with h9|h9
 ·exact fa j h9 (by simp)
 ·rw [List.getElem?_eq_none h9,List.getElem?_eq_none (by omega)]
theorem Qjn {ng:Cx} {i:Nat} {h0 a b:Hp} (ta:Touch h0 a) (tb:Touch h0 b):Touch h0 (mgHq ng i h0 a b):=by
 unfold mgHq
 split
 ·exact Touch.refl _
 ·exact Qbfm ta tb
theorem Qp1 {ng:Cx} {i:Nat} {h0 a b:Hp} (ta:Touch h0 a) (tb:Touch h0 b) {g0 g:Inj} {w0 w:World}:
  (g.sig.bval i=true->HRel ng g a.heap w->Ext g0 h0.heap w0 g a.heap w->HRel ng g (mgHq ng i h0 a b).heap w/\Ext g0 h0.heap w0 g (mgHq ng i h0 a b).heap w)/\
  (g.sig.bval i=false->HRel ng g b.heap w->Ext g0 h0.heap w0 g b.heap w->HRel ng g (mgHq ng i h0 a b).heap w/\Ext g0 h0.heap w0 g (mgHq ng i h0 a b).heap w):=by
 unfold mgHq
 split
 ·rename_i hh
  simp only [Bool.and_eq_true,Nat.beq_eq] at hh
  obtain ⟨h1,h2,h3,h4⟩:=hh
  have ea:=Qxd ta h1 h3
  have eb:=Qxd tb h2 h4
  exact ⟨fun _ h k=>⟨by rw [<-ea];exact h,by rw [<-ea];rw [ea] at k⊢;exact k⟩,fun _ h k=>⟨by rw [<-eb];exact h,by rw [eb] at k;exact k⟩⟩
 ·exact Qbfl ta tb
def Qwu:Ex->Ex->Bool
 |.normal,.normal=>true
 |.exit i,.exit j=>Nat.beq i j
 |.ret,.ret=>true
 |_,_=>false
theorem Qbiq {x y:Ex} (h:Qwu x y=true):x=y:=by
 unfold Qwu at h
 split at h
 ·rfl
 ·rw [Nat.eq_of_beq_eq_true h]
 ·rfl
 ·cases h
def scal (a:AVal):Bool:=
 match skOf a with
 |some _=>true
 |none=>false
mutual
def mgOk:AVal->AVal->Bool
 |.agg l,.agg m=>Qp4 l m
 |.tuple l,.tuple m=>Qp4 l m
 |.iface t v,.iface t' v'=>Nat.beq t t'&&mgOk v v'
 |a,b=>match scal a with
  |true=>scal b
  |false=>eqV a b
def Qp4:List AVal->List AVal->Bool
 |[],[]=>true
 |a::l,b::m=>mgOk a b&&Qp4 l m
 |_,_=>false
end
def Qbfo:Option AVal->Option AVal->Bool
 |some (.ptr _ _),some (.ptr _ _)=>true
 |some (.tuple []),_=>true
 |_,some (.tuple [])=>true
 |some a,some b=>mgOk a b
 |_,_=>true
def Qvr:TT->TT->Bool
 |.n l v r,.n l' v' r'=>Qbfo v v'&&(Qvr l l'&&Qvr r r')
 |_,_=>true
def Qbfn:Option Blk->Option Blk->Bool
 |some (.cells c e),some (.cells c' e')=>Nat.beq e e'&&Qp4 c c'
 |some (.map l),some (.map m)=>eqM l m
 |some (.loop _),some (.loop _)=>true
 |some .dfr,some .dfr=>true
 |some .gone,_=>true
 |_,some .gone=>true
 |_,_=>false
def Qvq (n:Nat) (A B:List Blk):List Nat->Bool
 |[]=>true
 |j::ids=>(match Nat.blt j n with
  |true=>Qbfn (A[j]?) (B[j]?)
  |false=>true)&&Qvq n A B ids
def mgO (ng:Cx) (h0:Hp) (i:Nat) (x y:Out×Hp):Option (Out×Hp):=
 match Qvq h0.heap.length x.2.heap y.2.heap (x.2.log.take (x.2.log.length-h0.log.length)++y.2.log.take (y.2.log.length-h0.log.length)) with
 |true=>match x.1,y.1 with
  |.val v,.val u=>match mgV ng i v u with
   |some r=>some (.val r,mgHq ng i h0 x.2 y.2)
   |none=>none
  |_,_=>none
 |false=>none
def mgOr (h0:Hp) (x y:Out×Hp):Option (Out×Hp):=
 match x.1,y.1 with
 |.val v,.val u=>match eqV v u&&(Nat.beq x.2.log.length h0.log.length&&(Nat.beq y.2.log.length h0.log.length&&(Nat.beq x.2.heap.length h0.heap.length&&Nat.beq y.2.heap.length h0.heap.length))) with
  |true=>some (.val v,h0)
  |false=>none
 |_,_=>none
theorem Q6p {h0 a:Hp} (ta:Touch h0 a) (h1:a.log.length=h0.log.length) (h2:a.heap.length=h0.heap.length):a=h0:=by
 have e1:=Qxd ta h1 h2
 obtain ⟨pa,ea,_⟩:=ta.log
 have:pa=[]:=by
  rw [ea,List.length_append] at h1
  exact List.length_eq_zero_iff.1 (by omega)
 rw [this,List.nil_append] at ea
 cases a;cases h0
 simp only at e1 ea
 subst e1;subst ea;rfl
theorem Qbfp {h0:Hp} {x y z:Out×Hp} (tx:Touch h0 x.2) (ty:Touch h0 y.2) (h:mgOr h0 x y=some z):x=z/\y=z:=by
 obtain ⟨x,hx⟩:=x
 obtain ⟨y,hy⟩:=y
 unfold mgOr at h
 simp only at h tx ty
 split at h
 ·rename_i v u
  split at h
  ·rename_i hc
   simp only [Bool.and_eq_true,Nat.beq_eq] at hc
   obtain ⟨h1,h2,h3,h4,h5⟩:=hc
   cases h
   rw [Q6p tx h2 h4,Q6p ty h3 h5,Q9 _ _ h1]
   exact ⟨rfl,rfl⟩
  ·cases h
 ·cases h
def mgC (ng:Cx) (h0:Hp) (i:Nat) (x y:Ex×Tm×Hp):Option (Ex×Tm×Hp):=
 match Qwu x.1 y.1&&(Qvr x.2.1.tr y.2.1.tr&&Qvq h0.heap.length x.2.2.heap y.2.2.heap (x.2.2.log.take (x.2.2.log.length-h0.log.length)++y.2.2.log.take (y.2.2.log.length-h0.log.length))) with
 |true=>match mgTm ng i x.2.1 y.2.1 with
  |some t=>some (x.1,t,mgHq ng i h0 x.2.2 y.2.2)
  |none=>none
 |false=>none
def WO (ng:Cx) (h0:Hp) (g0:Inj) (w0:World) (x y:Out×Hp):Prop:= ∀e w,OutQ ng h0 g0 w0 x.1 x.2 e w->OutQ ng h0 g0 w0 y.1 y.2 e w
def WC (ng:Cx) (h0:Hp) (g0:Inj) (w0:World) (a0:Act) (x y:Ex×Tm×Hp):Prop:= ∀e a w,Qp ng h0 g0 w0 a0 x e a w->Qp ng h0 g0 w0 a0 y e a w
theorem Qp3 {ng:Cx} {h0:Hp} {i:Nat} {x y z:Out×Hp} (tx:Touch h0 x.2) (ty:Touch h0 y.2) (h:mgO ng h0 i x y=some z):Touch h0 z.2/\ ∀(g0:Inj) (w0:World),(g0.sig.bval i=true->WO ng h0 g0 w0 x z)/\(g0.sig.bval i=false->WO ng h0 g0 w0 y z):=by
 obtain ⟨xo,xh⟩:=x
 obtain ⟨yo,yh⟩:=y
 unfold mgO at h
 simp only at h tx ty
 split at h
 rotate_left
 ·cases h
 split at h
 ·rename_i v u
  split at h
  ·rename_i r hr
   cases h
   refine ⟨Qjn tx ty,fun g0 w0=>⟨?_,?_⟩⟩
   ·rintro hb e w ⟨_,g',⟨q,rfl,hq⟩,hH,hE⟩
    have hb':g'.sig.bval i=true:=by rw [hE.sub.sig];exact hb
    obtain ⟨k1,k2⟩:=(Qp1 (ng:=ng) (i:=i) tx ty).1 hb' hH hE
    exact ⟨Qjn tx ty,g',⟨q,rfl,(Qb3 v u r hr g' hH.sig q).1 hb' hq⟩,k1,k2⟩
   ·rintro hb e w ⟨_,g',⟨q,rfl,hq⟩,hH,hE⟩
    have hb':g'.sig.bval i=false:=by rw [hE.sub.sig];exact hb
    obtain ⟨k1,k2⟩:=(Qp1 (ng:=ng) (i:=i) tx ty).2 hb' hH hE
    exact ⟨Qjn tx ty,g',⟨q,rfl,(Qb3 v u r hr g' hH.sig q).2 hb' hq⟩,k1,k2⟩
  ·cases h
 ·cases h
theorem Qhy {ng:Cx} {h0:Hp} {i:Nat} {x y z:Ex×Tm×Hp} (tx:Touch h0 x.2.2) (ty:Touch h0 y.2.2) (h:mgC ng h0 i x y=some z):Touch h0 z.2.2/\ ∀(g0:Inj) (w0:World) (a0:Act),(g0.sig.bval i=true->WC ng h0 g0 w0 a0 x z)/\(g0.sig.bval i=false->WC ng h0 g0 w0 a0 y z):=by
 obtain ⟨xe,xt,xh⟩:=x
 obtain ⟨ye,yt,yh⟩:=y
 unfold mgC at h
 simp only at h tx ty
 split at h
 ·rename_i he
  simp only [Bool.and_eq_true] at he
  have he:=Qbiq he.1
  subst he
  split at h
  ·rename_i t hr
   cases h
   refine ⟨Qjn tx ty,fun g0 w0 a0=>⟨?_,?_⟩⟩
   ·rintro hb e a w ⟨_,g',h1,hH,hE,h2,h3⟩
    have hb':g'.sig.bval i=true:=by rw [hE.sub.sig];exact hb
    obtain ⟨k1,k2⟩:=(Qp1 (ng:=ng) (i:=i) tx ty).1 hb' hH hE
    exact ⟨Qjn tx ty,g',h1,k1,k2,(Q3v hr g' hH.sig a).1 hb' h2,h3⟩
   ·rintro hb e a w ⟨_,g',h1,hH,hE,h2,h3⟩
    have hb':g'.sig.bval i=false:=by rw [hE.sub.sig];exact hb
    obtain ⟨k1,k2⟩:=(Qp1 (ng:=ng) (i:=i) tx ty).2 hb' hH hE
    exact ⟨Qjn tx ty,g',h1,k1,k2,(Q3v hr g' hH.sig a).2 hb' h2,h3⟩
  ·cases h
 ·cases h
def eqOf (ng:Cx) (i:Nat) (k:Int):Option Nat:=
 match symS ng (.bin .eql (.symi .i64 i) (.int .i64 k)) with
 |some (.symb j)=>some j
 |_=>none
theorem Qog {ng:Cx} {σ:Sig} (hg:ng.Good σ) {i j:Nat} {k:Int} (h:eqOf ng i k=some j):σ.bval j=decide (σ.ival i=k):=by
 unfold eqOf at h
 split at h
 ·rename_i j' hs
  cases h
  obtain ⟨q,h1,h2⟩:=Qch (g:=⟨fun _=>none,σ,fun _=>none⟩) hg hs
  simp only [Qb,den,binS,intA,if_true,Option.some.injEq] at h1
  subst h1
  have:=h2 _ (.bool _)
  generalize hv:Value.bool (σ.ival i==k)=v at this
  cases this
  simp only [Value.bool.injEq] at hv
  rw [<-hv]
  rfl
 ·cases h
def mgOP (ng:Cx) (h0:Hp) (i:Nat) (k:Int) (x y:Out×Hp):Option (Out×Hp):=
 match eqOf ng i k with
 |some j=>mgO ng h0 j x y
 |none=>none
def mgCP (ng:Cx) (h0:Hp) (i:Nat) (k:Int) (x y:Ex×Tm×Hp):Option (Ex×Tm×Hp):=
 match eqOf ng i k with
 |some j=>mgC ng h0 j x y
 |none=>none
theorem Qvp {ng:Cx} {h0:Hp} {i:Nat} {k:Int} {x y z:Out×Hp} (tx:Touch h0 x.2) (ty:Touch h0 y.2) (h:mgOP ng h0 i k x y=some z):Touch h0 z.2/\ ∀(g0:Inj) (w0:World),(g0.sig.ival i=k->WO ng h0 g0 w0 x z)/\(g0.sig.ival i≠k->WO ng h0 g0 w0 y z):=by
 unfold mgOP at h
 split at h
 ·rename_i j hj
  obtain ⟨t,hw⟩:=Qp3 tx ty h
  refine ⟨t,fun g0 w0=>⟨fun e en w hq=> ?_,fun e en w hq=> ?_⟩⟩
  ·have hq':=hq
   obtain ⟨_,g',_,hH,hE⟩:=hq
   have:=Qog hH.sig hj
   rw [hE.sub.sig] at this
   exact (hw g0 w0).1 (by rw [this];exact decide_eq_true e) en w hq'
  ·have hq':=hq
   obtain ⟨_,g',_,hH,hE⟩:=hq
   have:=Qog hH.sig hj
   rw [hE.sub.sig] at this
   exact (hw g0 w0).2 (by rw [this];exact decide_eq_false e) en w hq'
 ·cases h
theorem Qjl {ng:Cx} {h0:Hp} {i:Nat} {k:Int} {x y z:Ex×Tm×Hp} (tx:Touch h0 x.2.2) (ty:Touch h0 y.2.2) (h:mgCP ng h0 i k x y=some z):Touch h0 z.2.2/\ ∀(g0:Inj) (w0:World) (a0:Act),(g0.sig.ival i=k->WC ng h0 g0 w0 a0 x z)/\(g0.sig.ival i≠k->WC ng h0 g0 w0 a0 y z):=by
 unfold mgCP at h
 split at h
 ·rename_i j hj
  obtain ⟨t,hw⟩:=Qhy tx ty h
  refine ⟨t,fun g0 w0 a0=>⟨fun e en a w hq=> ?_,fun e en a w hq=> ?_⟩⟩
  ·have hq':=hq
   obtain ⟨_,g',_,hH,hE,_⟩:=hq
   have:=Qog hH.sig hj
   rw [hE.sub.sig] at this
   exact (hw g0 w0 a0).1 (by rw [this];exact decide_eq_true e) en a w hq'
  ·have hq':=hq
   obtain ⟨_,g',_,hH,hE,_⟩:=hq
   have:=Qog hH.sig hj
   rw [hE.sub.sig] at this
   exact (hw g0 w0 a0).2 (by rw [this];exact decide_eq_false e) en a w hq'
 ·cases h
def Qjg (body:List Fact->Tm->Hp->Tree (Ex×Tm×Hp)):Nat->List Fact->Tm->Hp->Tree (Ex×Tm×Hp)
 |0,_,_,_=> .dead
 |n+1,F,t,hp=>Qbb F (body F t hp) fun F' x=>match x with
  |(.normal,t',hp')=>Qjg body n F' t' hp'
  |x=> .leaf x
def Qnt (C:CxF) (call:Q7) (F:List Fact):Qdb:=fun f args hp=>
  match (C F).hook f args with
  |some v=> .ok (v,hp)
  |none=>match (C F).mhook f args hp with
   |some x=> .ok x
   |none=>match call F f args hp with
    |.leaf (.val v,hp')=> .ok (v,hp')
    |.node i _ _=> .ask (.tru i)
    |.pick i c _ _=> .ask (.non i c)
    |.req o _=>match o with
      |.node i _ _=> .ask (.tru i)
      |.pick i c _ _=> .ask (.non i c)
      |_=> .no
    |_=> .no
def Qm9 (P:Program) (C:CxF) (call:Q7) (round:Qbf) (inr:Bool) (ops:Array Oper) (m:Nat):Nat->List Fact->Tm->Hp->Tree (Ex×Tm×Hp)
 |0,_,_,_=> .dead
 |n+1,F,t,hp=>match Qm5 ops m with
  |true=>match Qgo P (C F) (Qnt C call F) (ops.toList.take m).toArray t hp with
   |.ok (t',hp')=>opsT P C call round inr ops.toList (ops.toList.drop m) F t' hp'
   |.ask x=>Qek (fun F=>Qm9 P C call round inr ops m n F t hp) F (some x)
   |.no=> .dead
  |false=> .dead
def Qmu (P:Program) (ng:Cx) (all:List Oper) (t:Tm) (o:Oper) (hp:Hp):Option AVal:=
 match Qbs ng all t o with
 |some false=>some Qb4
 |some true=>match Qhp o.op with
  |some _=>none
  |none=>match Qo6 P o.op with
   |.pure=>Qe6 P ng t o.op
   |.load=>match Qcf P ng t o.op hp.heap with
    |some x=>some x.1
    |none=>none
   |_=>none
 |none=>none
def Qo0 (vs:List (Option AVal)) (j:Nat):Bool:=
 match vs[j]? with
 |some (some _)=>false
 |_=>true
def Qnd (vs:List (Option AVal)) (o:Oper):Bool:=o.after.toList.any fun e=>Region.binds .any e&&Qo0 vs e.on
def panV (P:Program) (ng:Cx) (ops:Array Oper) (hp:Hp):Nat->List Oper->Tm->List (Option AVal)->Option Nat->List (Option AVal)×Option Nat
 |_,[],_,vs,r=>(vs,r)
 |i,o::l,t,vs,r=>match Qnd vs o with
  |true=>panV P ng ops hp (i+1) l t (vs++[none]) r
  |false=>match Qmu P ng ops.toList (only t (o.looksAt ops)) o hp with
   |some v=>panV P ng ops hp (i+1) l (putA t o.dst v) (vs++[some v]) r
   |none=>panV P ng ops hp (i+1) l t (vs++[none]) (match r with
    |some k=>some k
    |none=>some i)
def accT (t:Tm):List Oper->List (Option AVal)->Nat->Tm
 |o::l,v::vs,i+1=>match v with
  |some v=>accT (putA t o.dst v) l vs i
  |none=>accT t l vs i
 |_,_,_=>t
def Qqj (P:Program) (ng:Cx) (ops:Array Oper) (t:Tm) (hp:Hp) (vs:List (Option AVal)) (k:Nat):Nat->Bool
 |0=>true
 |i+1=>Qqj P ng ops t hp vs k i&&match ops[i]? with
  |some o=>match vs[i]? with
   |some (some v)=>match Qmu P ng ops.toList (only (accT t ops.toList vs i) (o.looksAt ops)) o hp with
    |some v'=>eqV v v'
    |none=>false
   |some none=>Nat.beq i k||Qnd vs o
   |none=>false
  |none=>false
def Qgw (t:Tm) (ops:List Oper):Nat->List (Nat×AVal)
 |0=>[]
 |d+1=>match ops.any fun o=>o.dst==some d with
  |true=>Qgw t ops d
  |false=>match t.get d with
   |some v=>(d,v)::Qgw t ops d
   |none=>Qgw t ops d
def panF (P:Program) (C:CxF) (call:Q7) (round:Qbf) (ops:Array Oper) (F:List Fact) (t:Tm) (hp:Hp):Option (Tm×AVal×Hp):=
 match Qrd ops (Qce [] ops.toList) with
 |true=>match panV P (C F) ops hp 0 ops.toList t [] none with
  |(vs,some k)=>match Qqj P (C F) ops t hp vs k ops.size&&Qo0 vs k with
   |true=>match ops[k]? with
    |some o=>match Qfl P C call round ops.toList o 12 F (only (accT t ops.toList vs k) (o.looksAt ops)) hp with
     |.leaf x=>match x.1 with
      |.pan v=>some (⟨t.len,.al (Qgw t ops.toList t.len),t.df⟩,v,x.2)
      |_=>none
     |_=>none
    |none=>none
   |false=>none
  |_=>none
 |false=>none
def Qk0 (P:Program) (C:CxF) (call:Q7) (round:Qbf) (inr:Bool) (ops:Array Oper):Nat->List Fact->Tm->Hp->Tree (Ex×Tm×Hp)
 |0,_,_,_=> .dead
 |n+1,F,t,hp=>match Qst P (C F) (Qnt C call F) ops t hp with
  |.ok (t',hp')=> .leaf (.normal,t',hp')
  |.ask x=>Qek (fun F=>Qk0 P C call round inr ops n F t hp) F (some x)
  |.no=>match panF P C call round ops F t hp with
   |some x=> .leaf (.pan x.2.1,x.1,x.2.2)
   |none=>match Qtx ops ops.size 1 with
    |some m=>Qm9 P C call round inr ops m 12 F t hp
    |none=> .dead
def Qdw (id:Nat) (x:Ex×Tm×Hp):Ex×Tm×Hp:=
 match x with
 |(.exit i,t,hp)=>match Nat.beq i id with
  |true=>(.normal,t,hp)
  |false=>(.exit i,t,hp)
 |x=>x
def Q43 (P:Program) (C:CxF) (call:Q7) (f:Operand) (ps:Array Tmp) (asg body:Code) (F:List Fact) (t:Tm) (hp:Hp):Tree (Ex×Tm×Hp):=.dead
def Qwb (P:Program) (C:CxF) (call:Q7) (round:Qbf) (inr:Bool) (ops:Array Oper) (draw:Bool) (F:List Fact) (t:Tm) (hp:Hp):Tree (Ex×Tm×Hp):=
 match draw with
 |false=>opsT P C call round inr ops.toList ops.toList F t hp
 |true=>Qk0 P C call round inr ops 12 F t hp
def Qbl (P:Program) (C:CxF) (mb:Bool) (fuel:Nat) (call:Q7) (round:Qbf) (inr:Bool):Code->List Fact->Tm->Hp->Tree (Ex×Tm×Hp)
 |.skip,_,t,hp=> .leaf (.normal,t,hp)
 |.label _,_,t,hp=> .leaf (.normal,t,hp)
 |.region _ ops draw,F,t,hp=>match Nat.beq (fuel%2) 1 with
  |true=>mgT (mgC (C F) hp) (mgCP (C F) hp) (fun _ _=>none) (Qwb P C call round inr ops draw F t hp)
  |false=>Qwb P C call round inr ops draw F t hp
 |.seq a b,F,t,hp=>Qbb F (Qbl P C mb fuel call round inr a F t hp) fun F' x=>match x with
  |(.normal,t',hp')=>Qbl P C mb fuel call round inr b F' t' hp'
  |x=> .leaf x
 |.cond c a b,F,t,hp=>match ev (C F) t c with
  |some (.bool v)=>match v with
   |true=>Qbl P C mb fuel call round inr a F t hp
   |false=>Qbl P C mb fuel call round inr b F t hp
  |some (.symb i)=> .node i (Qbl P C mb fuel call round inr a (.tru i true::F) t hp) (Qbl P C mb fuel call round inr b (.tru i false::F) t hp)
  |_=> .dead
 |.block id c,F,t,hp=>match mb with
  |true=>mgT (mgC (C F) hp) (mgCP (C F) hp) (fun _ _=>none) (Qbb F (Qbl P C mb fuel call round inr c F t hp) fun _ x=> .leaf (Qdw id x))
  |false=>Qbb F (Qbl P C mb fuel call round inr c F t hp) fun _ x=> .leaf (Qdw id x)
 |.loop c,F,t,hp=>Qjg (Qbl P C mb fuel call round inr c) fuel F t hp
 |.exit i,_,t,hp=> .leaf (.exit i,t,hp)
 |.ret,_,t,hp=> .leaf (.ret,t,hp)
 |.rangeFunc f ps asg body,F,t,hp=>match inr with
  |true=> .dead
  |false=>Q43 P C call f ps asg body F t hp
 |_,_,_,_=> .dead
structure CodeOk (P:Program) (C:CxF) (inr:Bool) (c:Code) (run:List Fact->Tm->Hp->Tree (Ex×Tm×Hp)):Prop where
 touch: ∀F t hp,AllT (fun x=>Touch hp x.2.2) (run F t hp)
 wp: ∀F t hp (Q:Ex×Tm×Hp->Prop) (r:Option Nat) g w a,(inr=false->r=none)->HRel (C F) g hp.heap w->FRel g t a->Sat g.sig Q (run F t hp)->
  c.wpIn (FR r) 0 P (fun e a' w'=> ∃x,Q x/\Qp (C F) hp g w a x e a' w') a w
def Qni (call:Q7):Prop:= ∀F f args hp,AllT (fun x=>Touch hp x.2) (call F f args hp)
def Qxk (round:Qbf):Prop:= ∀F f args hp,AllT (fun x=>Touch hp x.2) (round F f args hp)
structure Env (P:Program) (C:CxF) (call:Q7) (round:Qbf):Prop where
 mixed:P.follows .mixedOrders=true
 ok:CtxOk C
 hooks: ∀F,Hooks P (C F)
 callT:Qni call
 roundT:Qxk round
 call:Qhe P C call
 round:Qnk P C round
section
variable {P : Program} {C : CxF} {call : Q7} {round : Qbf}
theorem Qrc {α:Type} {Q:α->Prop} {k:List Fact->Tree α} (hk: ∀F,AllT Q (k F)) (F:List Fact) (x:Option Ask):AllT Q (Qek k F x):=by
 have key: ∀(i:Nat) (l:List Int) (F:List Fact),AllT Q (Qek.picks k i l F):=by
  intro i l
  induction l with
  |nil=>intro F;trivial
  |cons c l ih=>intro F;exact ⟨hk _,ih _⟩
 unfold Qek
 split
 ·exact ⟨hk _,hk _⟩
 ·exact key _ _ F
 ·exact ⟨hk _,hk _⟩
 ·trivial
theorem Q0a {q x:Nat} {all:List (AVal×AVal)} {hp:Hp} {x0:Nat} {l0:List (AVal×AVal)} {cur:Option (AVal×AVal)} (hb:hp.heap[q]? =some (.iter x0 l0 cur)):
  ∀(l:List (AVal×AVal)) (i:Nat),AllT (fun y=>Touch hp y.2) (Qor q x all hp i l)
 |[],_=>trivial
 |[p],i=>Qd8 ⟨_,hb,by simp⟩ (fun la h=>by cases h)
 |p::p'::l,i=>⟨Qd8 ⟨_,hb,by simp⟩ (fun la h=>by cases h),Q0a hb (p'::l) (i+1)⟩
theorem Qbft {q x:Nat} {hp:Hp} {x0:Nat} {l0:List (AVal×AVal)} {cur:Option (AVal×AVal)} (hb:hp.heap[q]? =some (.iter x0 l0 cur)) (l:List (AVal×AVal)):AllT (fun y=>Touch hp y.2) (Q3y q x hp l):=by
 cases l with
 |nil=>exact Touch.refl _
 |cons p l=>exact Q0a hb _ _
theorem Q95 {hp:Hp} {b z:Nat} {T1 T2:Tree (Out×Hp)} (hb: ∃c e,hp.heap[b]? =some (.cells c e)) (h1:AllT (fun x=>Touch hp x.2) T1) (h2:AllT (fun x=>Touch hp x.2) T2):AllT (fun x=>Touch hp x.2) (Qle hp b z T1 T2):=by
 obtain ⟨c,e,hb⟩:=hb
 unfold Qle
 split
 ·split
  ·split
   ·exact Qz7 ⟨_,hb,by simp⟩
   ·exact ⟨h1,h2⟩
  ·exact ⟨h1,h2⟩
 ·exact ⟨h1,h2⟩
theorem Qn4 (E:Env P C call round) {all:List Oper} {o:Oper}: ∀(n:Nat) (F:List Fact) (t:Tm) (hp:Hp),AllT (fun x=>Touch hp x.2) (Qfl P C call round all o n F t hp)
 |0,_,_,_=>trivial
 |n+1,F,t,hp=>by
  simp only [Qfl]
  split
  ·exact Qrc (fun F=>Qn4 E n F t hp) _ _
  ·exact Touch.refl _
  ·rename_i hw
   split
   ·split
    ·exact E.roundT _ _ _ _
    ·split
     ·split
      ·exact Touch.refl _
      ·split
       ·rename_i hv
        exact ((E.hooks F).mem _ _ _ _ _ hv).touch
       ·split
        ·rename_i hfc
         exact Q95 (Qz3 hfc).2 (E.callT _ _ _ _) ((E.callT _ _ _ _).mono fun x hx=>(Qz3 hfc).1.trans hx)
        ·exact E.callT _ _ _ _
     ·split
      ·rename_i hat
       exact Qxv hat
      split
      ·exact ⟨Touch.refl _,Touch.refl _⟩
      ·trivial
   ·split
    ·rename_i v hp' ho
     exact (Qv0 hw ho).touch
    ·split
     ·split
      ·split
       ·exact Touch.refl _
       ·trivial
      ·trivial
     ·split
      ·split
       ·split
        ·rename_i x l cur hb
         exact Qbft hb l
        ·trivial
       ·trivial
      ·trivial
     ·exact Qrc (fun F=>Qn4 E n F t hp) _ _
theorem Qqm (E:Env P C call round) {inr:Bool} {all:List Oper}: ∀(rest:List Oper) (F:List Fact) (t:Tm) (hp:Hp),AllT (fun x=>Touch hp x.2.2) (opsT P C call round inr all rest F t hp)
 |[],_,_,_=>Touch.refl _
 |o::rest,F,t,hp=>by
  simp only [opsT]
  split
  ·refine Qb7 (Q:=fun x=>Touch hp x.2) ?_ (Qn4 E 12 F t hp)
   rintro F' ⟨x,hp'⟩ hx
   cases x with
   |val v=>exact (Qqm E rest F' _ hp').mono fun y hy=>hx.trans hy
   |pan v=>exact hx
  ·split
   ·trivial
   ·split
    ·exact Qqm E rest F _ hp
    ·trivial
theorem Qnu (E:Env P C call round) (F:List Fact):Qim P (C F) (Qnt C call F):=by
 intro f args hp v hp' h
 unfold Qnt at h
 split at h
 ·rename_i u hu
  cases h
  exact (E.hooks F).val f args _ hu hp
 ·split at h
  ·rename_i x hx
   cases h
   exact (E.hooks F).mem f args hp _ _ hx
  split at h
  ·rename_i u h' hl
   cases h
   have ht:=E.callT F f args hp
   rw [hl] at ht
   refine ⟨ht,fun g w args' hH ha=> ?_⟩
   refine (E.call F f args hp (fun x=>x=(.val v,hp')) g w args' hH ha (by rw [hl];exact rfl)).mono ?_
   rintro e w' ⟨x,rfl,_,g',h1,h2,h3⟩
   exact ⟨g',h1,h2,h3⟩
  ·cases h
  ·cases h
  ·split at h<;>cases h
  ·cases h
theorem Qxb (E:Env P C call round) {ops:Array Oper} {id m:Nat} {inr:Bool}: ∀n,CodeOk P C inr (.region id ops true) (Qm9 P C call round inr ops m n)
 |0=>⟨fun _ _ _=>trivial,fun _ _ _ _ _ _ _ _ _ _ _ h=>h.elim⟩
 |n+1=>by
  have ih:=Qxb E (ops:=ops) (id:=id) (m:=m) (inr:=inr) n
  constructor
  ·intro F t hp
   simp only [Qm9]
   split
   ·split
    ·rename_i t' hp' h
     exact (Qqm E _ F t' hp').mono fun x hx=>(Qky (r:=none) (Qnu E F) h).1.trans hx
    ·exact Qrc (fun F=>ih.touch F t hp) _ _
    ·trivial
   ·trivial
  ·intro F t hp Q r g w a hr hH ht hs
   simp only [Qm9] at hs
   split at hs
   ·rename_i hok
    have K:=Q59 hok
    split at hs
    ·rename_i t1 s1 h1
     obtain ⟨a1,a2⟩:=Qky (r:=r) (Qnu E F) h1
     refine wpIn_region_any E.mixed ?_
     have hsz:(ops.toList.take m).toArray.size=m:=by have:=K.lt;simp;omega
     have hA:=a2 g w a (fun e a' w'=>e=.normal/\Qp (C F) hp g w a (.normal,t1,s1) .normal a' w') hH ht (fun a' w' q=>⟨rfl,q⟩)
     rw [hsz] at hA
     have key:=Qr6 K.weak (F:=FR r) (n:=0) (P:=P) (Q:=fun e a' w'=> ∃x,Q x/\Qp (C F) hp g w a x e a' w') (QA:=fun e a' w'=>e=.normal/\Qp (C F) hp g w a (.normal,t1,s1) .normal a' w') (fun e a w hne h=>absurd h.1 hne)
      (fun listed a' w' hu h=>Qxr K (ops.size-m) m (by have:=K.lt;omega) (Nat.le_refl _) listed a' w' hu (by
       obtain ⟨_,k0,g',k1,k2,k3,k4,k5⟩:=h
       exact Qnh (fun e a'' w'' ⟨x,hx,q⟩=>⟨x,hx,Qp.trans hH a1 k3 k5 q⟩) _ _ _ (Qql E.ok E.hooks E.call E.round hr _ F t1 s1 Q g' w' a' k2 k4 (by rw [k3.sub.sig];exact hs)))) m (Array.replicate m false) (Array.replicate ops.size false) a w.drew (by simp) (by simp)
      (fun i=>by unfold Ls;simp [Array.getElem?_replicate];split<;>split<;>simp) (fun i o _ hi=>absurd hi (Qjh m i)) ?_ hA
     ·rw [show m+(ops.size-m)=ops.size by have:=K.lt;omega] at key
      exact key
     ·unfold left
      have:((List.range m).countP fun i=> !(Array.replicate m false).getD i false)=(List.range m).length:=by
       rw [List.countP_eq_length]
       intro i hi
       simp [List.mem_range.1 hi]
      rw [this];simp
    ·obtain ⟨F',hF',h'⟩:=Qww (E.ok.facts hH) hs
     refine wpIn_mono (ih.wp F' t hp Q r g w a hr (E.ok.move hH hF') ht h') fun e a' w' ⟨x,hx,hq⟩=>⟨x,hx,hq.move E.ok (E.ok.facts hH)⟩
    ·exact hs.elim
   ·exact hs.elim
theorem Qbgv {ng:Cx} {all:List Oper} {t:Tm} {o:Oper} {hp:Hp} {v:AVal} (h:Qmu P ng all t o hp=some v):Step P ng all o t hp v hp:=by
 unfold Qmu at h
 split at h
 ·rename_i hw;cases h;exact .skip hw
 ·rename_i hw
  split at h
  ·cases h
  ·split at h
   ·exact .pure v hw h
   ·split at h
    ·rename_i x hx;cases h;exact .load x.1 x.2 hw hx
    ·cases h
   ·cases h
 ·cases h
theorem Qrz: ∀(l:List Oper) (vs:List (Option AVal)) (i:Nat) (t:Tm) (d:Nat) (v:AVal),(accT t l vs i).get d=some v->
  (∃(j:Nat) (y:Oper),j<i/\l[j]? =some y/\y.dst=some d/\vs[j]? =some (some v))\/(t.get d=some v/\ ∀(j:Nat) (y:Oper) (u:AVal),j<i->l[j]? =some y->y.dst=some d->vs[j]?≠some (some u))
 |[],vs,i,t,d,v,h=>by
  rw [show accT t [] vs i=t by unfold accT;rfl] at h
  exact .inr ⟨h,fun j y u _ hy=>by simp at hy⟩
 |o::l,[],i,t,d,v,h=>by
  rw [show accT t (o::l) [] i=t by unfold accT;rfl] at h
  exact .inr ⟨h,fun j y u _ _ _ hv=>by simp at hv⟩
 |o::l,w::vs,0,t,d,v,h=>by
  rw [show accT t (o::l) (w::vs) 0=t by unfold accT;rfl] at h
  exact .inr ⟨h,fun j y u hj=>by omega⟩
 |o::l,none::vs,i+1,t,d,v,h=>by
  simp only [accT] at h
  rcases Qrz l vs i t d v h with ⟨j,y,h1,h2,h3,h4⟩|⟨h1,h2⟩
  ·exact .inl ⟨j+1,y,by omega,by simpa using h2,h3,by simpa using h4⟩
  ·refine .inr ⟨h1,fun j y u hj hy hd=> ?_⟩
   cases j with
   |zero=>simp
   |succ j=>simpa using h2 j y u (by omega) (by simpa using hy) hd
 |o::l,some w::vs,i+1,t,d,v,h=>by
  simp only [accT] at h
  rcases Qrz l vs i _ d v h with ⟨j,y,h1,h2,h3,h4⟩|⟨h1,h2⟩
  ·exact .inl ⟨j+1,y,by omega,by simpa using h2,h3,by simpa using h4⟩
  ·obtain ⟨n,tr,df⟩:=t
   cases ho:o.dst with
   |none=>
    rw [ho] at h1
    refine .inr ⟨h1,fun j y u hj hy hd=> ?_⟩
    cases j with
    |zero=>simp at hy;subst hy;rw [ho] at hd;cases hd
    |succ j=>simpa using h2 j y u (by omega) (by simpa using hy) hd
   |some d0=>
    rw [ho] at h1
    have h3:=Tm.get_tr h1
    have hlt:=Tm.get_lt h1
    simp only [putA] at h3 hlt
    rcases TT.get_put tr d0 d w v h3 with ⟨rfl,rfl⟩|⟨hne,h4⟩
    ·exact .inl ⟨0,o,by omega,by simp,ho,by simp⟩
    ·refine .inr ⟨Tm.get_of h4 hlt,fun j y u hj hy hd=> ?_⟩
     cases j with
     |zero=>simp at hy;subst hy;rw [ho] at hd;simp at hd;exact absurd hd.symm hne
     |succ j=>simpa using h2 j y u (by omega) (by simpa using hy) hd
theorem Qnl: ∀(l:List Oper) (vs:List (Option AVal)) (i:Nat) (t:Tm),(accT t l vs i).len=t.len
 |[],vs,i,t=>by unfold accT;rfl
 |o::l,[],i,t=>by unfold accT;rfl
 |o::l,w::vs,0,t=>by unfold accT;rfl
 |o::l,none::vs,i+1,t=>by simp only [accT];exact Qnl l vs i t
 |o::l,some w::vs,i+1,t=>by
  simp only [accT]
  rw [Qnl l vs i]
  obtain ⟨n,tr,df⟩:=t
  cases o.dst<;>rfl
theorem Qo5 (t:Tm) (ops:List Oper): ∀(n d:Nat) (v:AVal),Qfi (Qgw t ops n) d=some v->t.get d=some v/\ ∀o,o∈ops->o.dst≠some d
 |0,d,v,h=>by simp [Qgw,Qfi] at h
 |n+1,d,v,h=>by
  simp only [Qgw] at h
  split at h
  ·exact Qo5 t ops n d v h
  ·rename_i hno
   split at h
   ·rename_i u hu
    simp only [Qfi] at h
    split at h
    ·rename_i hb
     have:=Nat.eq_of_beq_eq_true hb
     cases h;subst this
     refine ⟨hu,fun o ho hd=> ?_⟩
     have h9:=List.any_eq_false.1 hno o ho
     rw [hd] at h9;simp at h9
    ·exact Qo5 t ops n d v h
   ·exact Qo5 t ops n d v h
theorem Q4d {P:Program} {ng:Cx} {ops:Array Oper} {t:Tm} {hp:Hp} {vs:List (Option AVal)} {k:Nat}: ∀{n:Nat},Qqj P ng ops t hp vs k n=true-> ∀(i:Nat) (o:Oper),i<n->ops[i]? =some o->
  (∃v,vs[i]? =some (some v)/\Qmu P ng ops.toList (only (accT t ops.toList vs i) (o.looksAt ops)) o hp=some v)\/(vs[i]? =some none/\(i=k\/Qnd vs o=true))
 |0,_,i,o,hi,_=>by omega
 |n+1,h,i,o,hi,ho=>by
  simp only [Qqj,Bool.and_eq_true] at h
  obtain ⟨h1,h2⟩:=h
  rcases Nat.lt_or_ge i n with h9|h9
  ·exact Q4d h1 i o h9 ho
  ·have:i=n:=by omega
   subst this
   rw [ho] at h2
   simp only at h2
   split at h2
   ·rename_i v hv
    split at h2
    ·rename_i v' hq
     rw [Q9 _ _ h2] at hv
     exact .inl ⟨v',hv,hq⟩
    ·cases h2
   ·rename_i hv
    rw [Bool.or_eq_true] at h2
    exact .inr ⟨hv,h2.imp Nat.eq_of_beq_eq_true id⟩
   ·cases h2
theorem Qbjw {vs:List (Option AVal)} {o:Oper} (h:Qnd vs o=true): ∃e,e∈o.after/\Region.binds .any e=true/\ ∀v,vs[e.on]?≠some (some v):=by
 unfold Qnd at h
 rw [List.any_eq_true] at h
 obtain ⟨e,h1,h2⟩:=h
 simp only [Bool.and_eq_true] at h2
 refine ⟨e,by simpa using h1,h2.1,fun v hv=> ?_⟩
 have h3:=h2.2
 unfold Qo0 at h3
 rw [hv] at h3;cases h3
theorem Qr3 {ops:Array Oper} (he: ∀(i:Nat) (o:Oper),ops[i]? =some o-> ∀e,e∈o.after->Region.binds .any e=true->e.on<i): ∀{i j:Nat},Anc ops i j->j<i
 |_,_,.one i j o e ho h1 h2 h3=>h3▸he i o ho e h1 h2
 |_,_,.more i j o e ho h1 h2 h3=>Nat.lt_trans (Qr3 he h3) (he i o ho e h1 h2)
theorem Q4o (E:Env P C call round) {ops:Array Oper} {F:List Fact} {t t':Tm} {hp hp':Hp} {v:AVal} (h:panF P C call round ops F t hp=some (t',v,hp')):
  Touch hp hp'/\ ∀(id:Nat) (r:Option Nat) g w a,HRel (C F) g hp.heap w->FRel g t a->(Code.region id ops true).wpIn (FR r) 0 P (Qp (C F) hp g w a (.pan v,t',hp')) a w:=by
 unfold panF at h
 split at h
 ·rename_i hst
  split at h
  ·rename_i vs k hv
   split at h
   ·rename_i hok
    split at h
    ·rename_i ok hk
     split at h
     ·rename_i x hx
      split at h
      ·rename_i v0 hx1
       cases h
       simp only [Bool.and_eq_true] at hok
       obtain ⟨hok,hkn⟩:=hok
       unfold Qrd at hst
       simp only [Bool.and_eq_true] at hst
       obtain ⟨⟨s1,s2⟩,s3⟩:=hst
       have edge: ∀(i:Nat) (o:Oper),ops[i]? =some o-> ∀e,e∈o.after->Region.binds .any e=true->e.on<i:=by
        intro i o ho e he hb
        have:=Qk2 ops.toList 0 s1 i o (by simpa using ho) e he hb
        omega
       have hkv: ∀u,vs[k]?≠some (some u):=by
        intro u hu
        unfold Qo0 at hkn
        rw [hu] at hkn;cases hkn
       have hxe:x=(.pan v,x.2):=by rw [<-hx1]
       have hT:=Qn4 E (all:=ops.toList) (o:=ok) 12 F (only (accT t ops.toList vs k) (ok.looksAt ops)) hp
       rw [hx] at hT
       refine ⟨hT,fun id r g w a hH ht=> ?_⟩
       refine wpIn_region_any E.mixed ?_
       have key: ∀(n:Nat) (listed:Array Bool) (a':Act) (w':World) (g':Inj),listed.size=ops.size->left ops.size listed<=n->
         (∀i o,ops[i]? =some o->Ls listed i-> ∀e,e∈o.after->Region.binds .any e=true->Ls listed e.on)->
         (∀j,Ls listed j-> ∃u,vs[j]? =some (some u))->
         HRel (C F) g' hp.heap w'->Ext g hp.heap w g' hp.heap w'->a'.tmps.size=a.tmps.size->a'.defers=a.defers->
         (∀(j:Nat) (y:Oper) (d:Nat) (u:AVal),ops[j]? =some y->y.dst=some d->Ls listed j->vs[j]? =some (some u)->d<t.len-> ∃z,a'.tmps[d]? =some z/\VRel g' u z)->
         (∀(d:Nat),(∀(j:Nat) (y:Oper),ops[j]? =some y->Ls listed j->y.dst≠some d)->a'.tmps[d]? =a.tmps[d]?)->
         wpAnyIn (FR r) 0 P .any ops (Qp (C F) hp g w a (.pan v,⟨t.len,.al (Qgw t ops.toList t.len),t.df⟩,x.2)) n listed a' w':=by
        intro n
        induction n with
        |zero=>
         intro listed a' w' g' hsz hl hcl hso hH' hE hasz hadf t1 t2
         exfalso
         have:Ls listed k:=by
          have h0:left ops.size listed=0:=by omega
          unfold left at h0
          rw [List.countP_eq_zero] at h0
          have:=h0 k (List.mem_range.2 (Array.getElem?_eq_some_iff.1 hk).1)
          simpa [Ls] using this
         obtain ⟨u,hu⟩:=hso k this
         exact hkv u hu
        |succ n ih=>
         intro listed a' w' g' hsz hl hcl hso hH' hE hasz hadf t1 t2
         have hnk: ¬Ls listed k:=fun hk'=>by
          obtain ⟨u,hu⟩:=hso k hk'
          exact hkv u hu
         refine ⟨fun hnil=> ?_,fun i hi=> ?_⟩
         ·exfalso
          obtain ⟨j,hj,hnj,hmin⟩: ∃j,j<=k/\ ¬Ls listed j/\ ∀i,i<j->Ls listed i:=by
           have: ∀m,m<=k-> ¬Ls listed m-> ∃j,j<=k/\ ¬Ls listed j/\ ∀i,i<j->Ls listed i:=by
            intro m
            induction m using Nat.strongRecOn with
            |_ m ihm=>
             intro hm hnm
             by_cases hc: ∃i,i<m/\ ¬Ls listed i
             ·obtain ⟨i,q1,q2⟩:=hc
              exact ihm i q1 (by omega) q2
             ·exact ⟨m,hm,hnm,fun i hi=>Classical.byContradiction fun h=>hc ⟨i,hi,h⟩⟩
           exact this k (Nat.le_refl _) hnk
          have hkl:=(Array.getElem?_eq_some_iff.1 hk).1
          have hjn:j<ops.size:=by omega
          have ho:ops[j]? =some ops[j]:=by simp [hjn]
          have hin:j∈Region.ready .any ops listed:=by
           unfold Region.ready
           simp only [List.mem_filter,List.mem_range,Bool.and_eq_true,Bool.not_eq_true']
           refine ⟨hjn,?_,?_⟩
           ·unfold Ls at hnj
            simp [show j<listed.size by omega] at hnj⊢
            exact hnj
           ·rw [ho]
            simp only [Option.map_some,Option.getD_some,Array.all_eq_true_iff_forall_mem]
            intro e he
            by_cases hb:Region.binds .any e=true
            ·have:=hmin e.on (edge j _ ho e he hb)
             unfold Ls at this
             simp [this]
            ·simp [hb]
          rw [hnil] at hin;cases hin
         ·obtain ⟨o,hr⟩:=Qg3 hsz hi
          have hin:=Qcm hr
          have hanc: ∀j,Anc ops i j->Ls listed j:=fun j hj=>Qno hcl hj fun o' ho' e e1 e2=>by
           rw [hr.op] at ho';cases ho'
           exact hr.edges e e1 e2
          have htr:TRel g' (only (accT t ops.toList vs i) (o.looksAt ops)) a':=by
           refine ⟨by show (accT t ops.toList vs i).len<=_;rw [Qnl,hasz];exact ht.1.1,fun d u hd=> ?_⟩
           obtain ⟨h1,h2⟩:=Q4g hd
           have hdl:d<t.len:=by have:=Tm.get_lt h1;rwa [Qnl] at this
           rcases Qrz _ _ _ _ _ _ h1 with ⟨j,y,q1,q2,q3,q4⟩|⟨q1,q2⟩
           ·rcases Qv9 s3 i j o y d hr.op (by simpa using q2) h2 q3 (by omega) with h9|h9
            ·exact t1 j y d u (by simpa using q2) q3 (hanc j (Qki ops i j h9)) q4 hdl
            ·have:=Qr3 edge (Qki ops j i h9)
             omega
           ·rw [t2 d (fun j y hy hl hyd=> ?_)]
            ·obtain ⟨z,z1,z2⟩:=ht.1.2 d u q1
             exact ⟨z,z1,z2.mono hE.sub⟩
            ·obtain ⟨u',hu'⟩:=hso j hl
             have hji:j≠i:=fun e=>hr.no (e▸hl)
             have hge: ¬j<i:=fun hlt=>q2 j y u' hlt (by simpa using hy) hyd hu'
             rcases Qv9 s3 i j o y d hr.op hy h2 hyd hji with h9|h9
             ·have:=Qr3 edge (Qki ops i j h9)
              omega
             ·refine hr.no (Qno hcl (Qki ops j i h9) fun o' ho' e e1 e2=>hcl j o' ho' hl e e1 e2)
          unfold wpOpIn
          rw [hr.op]
          simp only
          by_cases hik:i=k
          ·subst hik
           have hoe:=hr.op
           rw [hk] at hoe
           cases hoe
           refine Qsq E.ok E.hooks E.call E.round 12 F (only (accT t ops.toList vs i) (ok.looksAt ops)) hp (fun y=>y=x) g' w' a' _ _ hH' htr (by rw [hx];rfl) ?_ ?_
           ·intro v1 hp1 g1 u1 w1 he
            rw [hxe] at he;cases he
           ·intro v1 hp1 g1 u1 w1 he hto hv1 hH1 hE1
            rw [hxe] at he;cases he
            refine ⟨hT,g1,⟨u1,rfl,hv1⟩,hH1,hE.trans hH hE1,⟨⟨by show t.len<=_;rw [hasz];exact ht.1.1,fun d u hd=> ?_⟩,by rw [hadf];exact ht.2.mono (hE.trans hH hE1).sub⟩,hasz⟩
            have hd2:=Tm.get_tr hd
            simp only [TT.get] at hd2
            obtain ⟨q1,q2⟩:=Qo5 _ _ _ _ _ hd2
            obtain ⟨z,z1,z2⟩:=ht.1.2 d u q1
            refine ⟨z,?_,z2.mono (hE.trans hH hE1).sub⟩
            rw [t2 d fun j y hy _ hyd=>q2 y (List.mem_of_getElem? (i:=j) (by simpa using hy)) hyd]
            exact z1
          ·rcases Q4d hok i o hin hr.op with ⟨u,hu,hq⟩|⟨hu,h9⟩
           ·refine (Qbgv hq).wp hH' htr ?_
            intro g1 z w1 hv1 hH1 hE1
            have hil:i<listed.size:=by omega
            refine ih (listed.setIfInBounds i true) _ w1 g1 (by simp [hsz]) ?_ ?_ ?_ hH1 (hE.trans hH hE1) (by rw [(Qe7 a' o.dst z).1,hasz]) (by rw [(Qe7 a' o.dst z).2,hadf]) ?_ ?_
            ·have:=Qt0 hin hsz hr.no
             omega
            ·intro j y hy hl e he hb
             rw [Qr listed i _ hil] at hl⊢
             rcases hl with rfl|hl
             ·rw [hr.op] at hy;cases hy
              exact .inr (hr.edges e he hb)
             ·exact .inr (hcl j y hy hl e he hb)
            ·intro j hl
             rw [Qr listed i _ hil] at hl
             rcases hl with rfl|hl
             ·exact ⟨u,hu⟩
             ·exact hso j hl
            ·intro j y d u' hy hyd hl hvj hdl
             rw [Qr listed i _ hil] at hl
             by_cases hji:j=i
             ·subst hji
              rw [hr.op] at hy;cases hy
              rw [hu] at hvj;cases hvj
              refine ⟨z,?_,hv1⟩
              have:d<a'.tmps.size:=by rw [hasz];have:=ht.1.1;omega
              simp [Act.put,hyd,this]
             ·have hl:Ls listed j:=hl.resolve_left hji
              obtain ⟨z',z1,z2⟩:=t1 j y d u' hy hyd hl hvj hdl
              refine ⟨z',?_,z2.mono hE1.sub⟩
              cases hod:o.dst with
              |none=>simpa [Act.put] using z1
              |some d'=>
               simp only [Act.put]
               rw [Array.getElem?_setIfInBounds_ne]
               ·exact z1
               ·intro he
                subst he
                exact hji (Qsv ops.toList s2 j i y o d' (by simpa using hy) (by simpa using hr.op) hyd hod)
            ·intro d hno
             have hod:=hno i o hr.op ((Qr listed i i hil).2 (.inl rfl))
             rw [<-t2 d fun j y hy hl=>hno j y hy ((Qr listed i j hil).2 (.inr hl))]
             cases ho:o.dst with
             |none=>simp [Act.put]
             |some d'=>
              simp only [Act.put]
              rw [Array.getElem?_setIfInBounds_ne (fun he=>hod (by rw [ho,he]))]
           ·exfalso
            rcases h9 with h9|h9
            ·exact hik h9
            ·obtain ⟨e,e1,e2,e3⟩:=Qbjw h9
             obtain ⟨u,hu'⟩:=hso e.on (hr.edges e e1 e2)
             exact e3 u hu'
       have hwd:HRel (C F) g hp.heap w.drew/\Ext g hp.heap w g hp.heap w.drew:=by
        refine ⟨⟨hH.dom,hH.inj,fun i k hi hk=> ?_,hH.glob,hH.sig,hH.frz.to rfl rfl (Nat.le_refl _) (Nat.le_refl _) fun b hb q2=>⟨rfl,q2⟩⟩,
         ⟨Sub.refl g,(fun i L hi hn=>by rw [hn] at hi;cases hi),(fun i L hi hn=>by rw [hn] at hi;cases hi),Nat.le_refl _,fun _ _ hl=>hl,Nat.le_refl _,fun _ _ _=>rfl,rfl,rfl,rfl⟩⟩
        rcases hH.blk0 i k hi hk with hz|⟨L,hL,hB⟩
        ·exact .inl hz
        ·exact .inr ⟨L,hL,hB.of_same rfl⟩
       refine key ops.size (Array.replicate ops.size false) a w.drew g (by simp) ?_ (fun i o _ hi=>absurd hi (Qjh _ i)) (fun j hi=>absurd hi (Qjh _ j)) hwd.1 hwd.2 rfl rfl (fun j y d u _ _ hl=>absurd hl (Qjh _ j)) (fun d _=>rfl)
       unfold left
       have:((List.range ops.size).countP fun i=> !(Array.replicate ops.size false).getD i false)<=(List.range ops.size).length:=List.countP_le_length
       simpa using this
      ·cases h
     ·cases h
    ·cases h
   ·cases h
  ·cases h
 ·cases h
theorem Qyv (E:Env P C call round) {ops:Array Oper} {id:Nat} {inr:Bool}: ∀n,CodeOk P C inr (.region id ops true) (Qk0 P C call round inr ops n)
 |0=>⟨fun _ _ _=>trivial,fun _ _ _ _ _ _ _ _ _ _ _ h=>h.elim⟩
 |n+1=>by
  have ih:=Qyv E (ops:=ops) (id:=id) (inr:=inr) n
  constructor
  ·intro F t hp
   simp only [Qk0]
   split
   ·rename_i t' hp' h
    exact (Qyu (r:=none) E.mixed (Qnu E F) h).1
   ·exact Qrc (fun F=>ih.touch F t hp) _ _
   ·split
    ·rename_i x hx
     exact (Q4o E (t':=x.1) (v:=x.2.1) (hp':=x.2.2) hx).1
    ·split
     ·exact (Qxb E (id:=id) 12).touch F t hp
     ·trivial
  ·intro F t hp Q r g w a hr hH ht hs
   simp only [Qk0] at hs
   split at hs
   ·rename_i t' hp' h
    exact wpIn_mono ((Qyu (r:=r) E.mixed (Qnu E F) h).2 id g w a hH ht) fun e a' w' hq=>⟨_,hs,hq⟩
   ·obtain ⟨F',hF',h'⟩:=Qww (E.ok.facts hH) hs
    refine wpIn_mono (ih.wp F' t hp Q r g w a hr (E.ok.move hH hF') ht h') fun e a' w' ⟨x,hx,hq⟩=>⟨x,hx,hq.move E.ok (E.ok.facts hH)⟩
   ·split at hs
    ·rename_i x hx
     exact wpIn_mono ((Q4o E (t':=x.1) (v:=x.2.1) (hp':=x.2.2) hx).2 id r g w a hH ht) fun e a' w' hq=>⟨_,hs,hq⟩
    ·split at hs
     ·exact (Qxb E (id:=id) 12).wp F t hp Q r g w a hr hH ht hs
     ·exact hs.elim
theorem Q29 (E:Env P C call round) {c:Code} {run:List Fact->Tm->Hp->Tree (Ex×Tm×Hp)} {inr:Bool} (hc:CodeOk P C inr c run): ∀(n:Nat),
  (∀F t hp,AllT (fun x=>Touch hp x.2.2) (Qjg run n F t hp))/\ ∀F t hp (Q:Ex×Tm×Hp->Prop) (r:Option Nat) g w a,(inr=false->r=none)->HRel (C F) g hp.heap w->FRel g t a->Sat g.sig Q (Qjg run n F t hp)->
  Code.roundsIn (FR r) 0 P c (fun e a' w'=> ∃x,Q x/\Qp (C F) hp g w a x e a' w') n a w
 |0=>⟨fun _ _ _=>trivial,fun _ _ _ _ _ _ _ _ _ _ _ h=>h.elim⟩
 |n+1=>by
  obtain ⟨i1,i2⟩:=Q29 E hc n
  constructor
  ·intro F t hp
   simp only [Qjg]
   refine Qb7 (Q:=fun x=>Touch hp x.2.2) ?_ (hc.touch F t hp)
   rintro F' ⟨x,t',hp'⟩ hx
   cases x with
   |normal=>exact (i1 F' t' hp').mono fun y hy=>hx.trans hy
   |_=>exact hx
  ·intro F t hp Q r g w a hr hH ht hs
   simp only [Qjg] at hs
   have hs:=Qcc (E.ok.facts hH) hs
   refine wpIn_mono (hc.wp F t hp _ r g w a hr hH ht hs) ?_
   rintro e a' w' ⟨⟨x,t',hp'⟩,⟨F',hF',q⟩,hq⟩
   cases x with
   |normal=>
    obtain ⟨h0,g',h1,h2,h3,h4,h5⟩:=hq
    cases e<;>simp only [Qbj] at h1
    have hF0:Ql g'.sig F:=by rw [h3.sub.sig];exact E.ok.facts hH
    have:=i2 F' t' hp' Q r g' w' a' hr (E.ok.move h2 (by rw [h3.sub.sig];exact hF')) h4 (by rw [h3.sub.sig];exact q)
    have key: ∀(m:Nat) (Q1 Q2:Exit->Act->World->Prop) b v,(∀e a w,Q1 e a w->Q2 e a w)->Code.roundsIn (FR r) 0 P c Q1 m b v->Code.roundsIn (FR r) 0 P c Q2 m b v:=by
     intro m
     induction m with
     |zero=>intro _ _ _ _ _ h;exact h
     |succ m ihm=>
      intro Q1 Q2 b v hq h
      rw [roundsIn_succ] at h⊢
      exact wpIn_mono h fun e a w h=>by
       cases e with
       |normal=>exact ihm Q1 Q2 a w hq h
       |_=>exact hq _ _ _ h
    exact key n _ _ a' w' (fun e a w ⟨x,hx,hq⟩=>⟨x,hx,(hq.move E.ok hF0).trans hH h0 h3 h5⟩) this
   |_=>
    obtain ⟨h0,g',h1,h2,h3,h4,h5⟩:=hq
    cases e<;>simp only [Qbj] at h1<;>exact ⟨_,q,h0,g',h1,h2,h3,h4,h5⟩
end
end Go.Ev
namespace Go.Ev
section
variable {P : Program} {C : CxF} {call : Q7} {round : Qbf}
def setW (w:World) (r:Nat) (o:Obj):World:={w with heap:=w.heap.setIfInBounds r o}
theorem Qbi1 (w:World) (r:Nat) (o:Obj):Wr r w (setW w r o):=by
 refine ⟨by simp [setW],fun k hk=> ?_,rfl,rfl,rfl⟩
 simp only [setW]
 exact Array.getElem?_setIfInBounds_ne (Ne.symm hk)
theorem Qbgw (E:Env P C call round) {f:Operand} {ps:Array Tmp} {asg body:Code}:CodeOk P C false (.rangeFunc f ps asg body) (Q43 P C call f ps asg body):=by
 constructor
 ·intro F t hp
  trivial
 ·intro F t hp Q r g w a hr hH ht hs
  exact hs.elim
end
end Go.Ev
