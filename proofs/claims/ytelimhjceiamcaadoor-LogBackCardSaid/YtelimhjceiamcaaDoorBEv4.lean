/- The evaluator, part 4. -/
import Derived.Test.YtelimhjceiamcaaDoorBEv3
set_option linter.unusedVariables false
set_option linter.unusedSimpArgs false
set_option linter.unnecessarySimpa false
namespace Go.Ev
inductive DK where
 |lite
 |load (b:Option Nat)
 |fresh (id:Nat) (c:List AVal) (e:TypeId)
 |eff (pre:List Nat)
 |mk (x:Nat)
 |ins (x:Nat) (d:TypeDesc) (k v:AVal)
def DK.isEff:DK->Prop
 |.eff _=>True
 |_=>False
def Lite (P:Program) (ng:Cx) (ops:List Oper) (o:Oper) (t:Tm) (v:AVal):Prop:=
 (Qbs ng ops t o=some false/\v=Qb4)\/(Qbs ng ops t o=some true/\Qe6 P ng t o.op=some v)
def Qbv (kd:Nat->DK) (anc:Nat->Nat->Prop) (i x:Nat):Prop:=(∃j c e,j<i/\kd j=.fresh x c e/\ ¬anc i j)\/ ∃j,j<i/\kd j=.mk x
def InsA (P:Program) (ng:Cx) (t:Tm) (op:Op) (x:Nat) (d:TypeDesc) (k v:AVal):Prop:=
 ∃ty m k' v' kt vt u,op=.insert ty m k' v'/\P.underlying ty=some (.map kt vt)/\P.underlying kt=some d/\ev ng t m=some (.map x)/\ev ng t k'=some k/\ev ng t v'=some v/\keyA d k=some u
structure DTr (P:Program) (ng:Cx) (ops:Array Oper) (r0:Nat) (tm tr:Nat->Tm) (hp:Nat->Hp) (val:Nat->AVal) (kd:Nat->DK) (anc:Nat->Nat->Prop):Prop where
 le0:r0<=(hp 0).heap.length
 kdn: ∀j,ops.size<=j->kd j=.lite
 edge: ∀(i:Nat) (o:Oper),ops[i]? =some o-> ∀e,e∈o.after->Region.binds .any e=true->e.on<i
 ancI: ∀i j,anc i j-> ∃o:Oper,ops[i]? =some o/\ ∃e,e∈o.after/\Region.binds .any e=true/\(e.on=j\/anc e.on j)
 dst: ∀(i j:Nat) (x y:Oper) (d:Nat),ops[i]? =some x->ops[j]? =some y->x.dst=some d->y.dst=some d->i=j
 reads: ∀(i d:Nat) (v:AVal),i<ops.size->(tr i).get d=some v->(tm i).get d=some v/\ ∀(j:Nat) (y:Oper),ops[j]? =some y->y.dst=some d->j≠i->anc i j\/anc j i
 trl: ∀i,(tr i).len=(tm i).len
 effs: ∀i j,i<j->(kd i).isEff->(kd j).isEff->anc j i
 loads: ∀i b j pre,kd i=.load (some b)->kd j=.eff pre-> ¬anc i j-> ¬anc j i->b∉pre
 tmS: ∀(i:Nat) (o:Oper),ops[i]? =some o->tm (i+1)=putA (tm i) o.dst (val i)
 uniq: ∀i j x c e c' e',kd i=.fresh x c e->kd j=.fresh x c' e'->i=j
 uniqM: ∀i j x,kd i=.mk x->kd j=.mk x->i=j
 apart: ∀i j x c e,kd i=.mk x->kd j≠.fresh x c e
 loadsM: ∀i j b,kd i=.load (some b)->kd j≠.mk b
 insM: ∀i x d k v,kd i=.ins x d k v-> ∃j,kd j=.mk x/\anc i j
 keys: ∀i j x d k v d' k' v',i≠j->kd i=.ins x d k v->kd j=.ins x d' k' v'->(∃u,keyA d k'=some u)/\Qf9 k' k=false
 step: ∀(i:Nat) (o:Oper),ops[i]? =some o->match kd i with
  |.mk x=>Qbs ng ops.toList (tr i) o=some true/\(∃ty,o.op=.makeMap ty none)/\val i=.map x/\r0<=x/\(hp 0).heap[x]? =some .gone/\hp (i+1)=⟨(hp i).heap.set x (.map []),(hp i).log⟩
  |.ins x d k v=>Qbs ng ops.toList (tr i) o=some true/\InsA P ng (tr i) o.op x d k v/\val i=Qb4/\ ∃l,(hp i).heap[x]? =some (.map l)/\hp (i+1)=⟨(hp i).heap.set x (.map (l++[(k,v)])),(hp i).log⟩
  |.lite=>hp (i+1)=hp i/\Lite P ng ops.toList o (tr i) (val i)
  |.load b=>hp (i+1)=hp i/\Qbs ng ops.toList (tr i) o=some true/\Qcf P ng (tr i) o.op (hp i).heap=some (val i,b)
  |.fresh x c e=>Qbs ng ops.toList (tr i) o=some true/\(∃m,Qfr P ng (tr i) o.op=some (c,e,m)/\val i=m.val x)/\r0<=x/\(hp 0).heap[x]? =some .gone/\
    hp (i+1)=⟨(hp i).heap.set x (.cells c e),(hp i).log⟩
  |.eff pre=> ∃hm hm',Step P ng ops.toList o (tr i) hm (val i) hm'/\hm.heap.length=(hp i).heap.length/\(∀x,Qbv kd anc i x->hm.heap[x]? =some .gone)/\
    (∀x,¬Qbv kd anc i x->hm.heap[x]? =(hp i).heap[x]?)/\(hp (i+1)).heap.length=hm'.heap.length/\(∀x,Qbv kd anc i x->(hp (i+1)).heap[x]? =(hp i).heap[x]?)/\
    (∀x,¬Qbv kd anc i x->(hp (i+1)).heap[x]? =hm'.heap[x]?)/\(∀x,x<hm.heap.length->x∉pre->hm'.heap[x]? =hm.heap[x]?)
theorem Qpa {p:Nat} {C:Nat->Prop} (h0:C p) (h1: ∀i,p<=i->C i->C (i+1)): ∀i,p<=i->C i:=by
 intro i hi
 obtain ⟨d,rfl⟩:=Nat.exists_eq_add_of_le hi
 clear hi
 induction d with
 |zero=>exact h0
 |succ d ih=>exact h1 _ (Nat.le_add_right _ _) ih
theorem Q32 {H:List Blk} {x:Nat} (hx:x<H.length) (h: ¬Live H x):H[x]? =some .gone:=by
 rw [List.getElem?_eq_getElem hx]
 cases hk:H[x] with
 |gone=>rfl
 |map l=>exact absurd ⟨_,List.getElem?_eq_getElem hx,by rw [hk];simp⟩ h
 |cells c e=>exact absurd ⟨_,List.getElem?_eq_getElem hx,by rw [hk];simp⟩ h
 |loop l=>exact absurd ⟨_,List.getElem?_eq_getElem hx,by rw [hk];simp⟩ h
 |iter x l cur=>exact absurd ⟨_,List.getElem?_eq_getElem hx,by rw [hk];simp⟩ h
 |dfr=>exact absurd ⟨_,List.getElem?_eq_getElem hx,by rw [hk];simp⟩ h
 |lst s n cl e=>exact absurd ⟨_,List.getElem?_eq_getElem hx,by rw [hk];simp⟩ h
theorem Qgs {H:List Blk} {x:Nat} (h:H[x]? =some .gone): ¬Live H x:=by
 rintro ⟨k,hk,hne⟩
 rw [h] at hk;cases hk;exact hne rfl
theorem HRel.weaken {ng:Cx} {g:Inj} {H H':List Blk} {w:World} (h:HRel ng g H w) (hl:H'.length=H.length) (hw: ∀(x:Nat) (k:Blk),H'[x]? =some k->k≠.gone->H[x]? =some k):HRel ng g H' w:=
 ⟨fun i L hi=>by rw [hl];exact h.dom i L hi,fun i j L M hi hj hb ⟨k,hk,hn⟩ ⟨k',hk',hn'⟩=>h.inj i j L M hi hj hb ⟨k,hw i k hk hn,hn⟩ ⟨k',hw j k' hk' hn',hn'⟩,
  fun i k hi hk=>h.blk0 i k (hw i k hi hk) hk,h.glob,h.sig,
  h.frz.to rfl rfl (Nat.le_of_eq hl.symm) (Nat.le_refl _) fun b hb q2=>⟨rfl,fun j L hj ⟨k,hk,hn⟩=>q2 j L hj ⟨k,hw j k hk hn,hn⟩⟩⟩
theorem Ext.weaken {g0 g:Inj} {H0 H H':List Blk} {w0 w:World} (h:Ext g0 H0 w0 g H w) (hl:H0.length<=H'.length) (hw: ∀x,x<H0.length->Live H' x->Live H x):Ext g0 H0 w0 g H' w where
 sub:=h.sub
 new:=h.new
 newm:=h.newm
 len:=hl
 live:=fun i hi hl=>h.live i hi (hw i hi hl)
 size:=h.size
 frame:=h.frame
 os:=h.os
 tape:=h.tape
 output:=h.output
theorem HRel.relax {ng:Cx} {g:Inj} {H H':List Blk} {w:World} (h:HRel ng g H w) (hl:H.length<=H'.length)
  (hb: ∀(j:Nat) (k':Blk),H'[j]? =some k'->k'≠.gone-> ∃k,H[j]? =some k/\k≠.gone/\(∀L,BRel g w k L->BRel g w k' L)/\(Qb6 g k->Qb6 g k')):HRel ng g H' w:=by
 have hv: ∀j,Live H' j->Live H j:=fun j ⟨k,hk,hn⟩=>let ⟨k0,h1,h2,_⟩:=hb j k hk hn;⟨k0,h1,h2⟩
 refine ⟨fun j L hj=>⟨Nat.lt_of_lt_of_le (h.dom j L hj).1 hl,(h.dom j L hj).2⟩,fun i j L M hi hj he li lj=>h.inj i j L M hi hj he (hv i li) (hv j lj),?_,h.glob,h.sig,
  h.frz.to rfl rfl hl (Nat.le_refl _) fun b hb q2=>⟨rfl,fun j L hj lj=>q2 j L hj (hv j lj)⟩⟩
 intro j k' hk' hne
 obtain ⟨k,h1,h2,h3,h4⟩:=hb j k' hk' hne
 rcases h.blk0 j k h1 h2 with hz|⟨L,hL,hB⟩
 ·exact .inl (h4 hz)
 exact .inr ⟨L,hL,h3 L hB⟩
theorem Ext.relax {g0 g:Inj} {H0 H H':List Blk} {w0 w:World} (h:Ext g0 H0 w0 g H w) (hl:H.length<=H'.length) (hv: ∀j,Live H' j->Live H j):Ext g0 H0 w0 g H' w:=
 ⟨h.sub,h.new,h.newm,Nat.le_trans h.len hl,fun j hj lj=>h.live j hj (hv j lj),h.size,h.frame,h.os,h.tape,h.output⟩
theorem MRel.perm {g:Inj} {l l':List (AVal×AVal)} (hp:l.Perm l'): ∀{m:List MapEntry},MRel g l m-> ∃m',m.Perm m'/\MRel g l' m':=by
 induction hp with
 |nil=>intro m h;exact ⟨m,.refl _,h⟩
 |cons x _ ih=>
  intro m h
  cases h with
  |cons k v e _ m h1 h2 h3=>
   obtain ⟨m',q1,q2⟩:=ih h3
   exact ⟨e::m',q1.cons e,.cons k v e _ m' h1 h2 q2⟩
 |swap x y l=>
  intro m h
  cases h with
  |cons k v e _ m h1 h2 h3=>cases h3 with
   |cons k' v' e' _ m h1' h2' h3=>exact ⟨e'::e::m,List.Perm.swap _ _ _,.cons k' v' e' _ _ h1' h2' (.cons k v e _ _ h1 h2 h3)⟩
 |trans _ _ ih1 ih2=>
  intro m h
  obtain ⟨m1,q1,q2⟩:=ih1 h
  obtain ⟨m2,q3,q4⟩:=ih2 q2
  exact ⟨m2,q1.trans q3,q4⟩
theorem BRel.perm {g:Inj} {w:World} {l l':List (AVal×AVal)} {L:Loc} (hp:l.Perm l') (h:BRel g w (.map l) L):BRel g w (.map l') L:=by
 obtain ⟨es,cl,es',h1,h2,h3,h4⟩:=h
 obtain ⟨m',q1,q2⟩:=h3.perm hp
 exact ⟨es,cl,m',h1,h2.trans q1,q2,h4⟩
section
variable {P : Program} {ng : Cx} {ops : Array Oper} {r0 : Nat} {tm tr : Nat -> Tm} {hp : Nat -> Hp} {val : Nat -> AVal} {kd : Nat -> DK} {anc : Nat -> Nat -> Prop}
theorem DTr.lt (T:DTr P ng ops r0 tm tr hp val kd anc) {j:Nat} (h:kd j≠.lite):j<ops.size:=by
 rcases Nat.lt_or_ge j ops.size with h1|h1
 ·exact h1
 ·exact absurd (T.kdn j h1) h
theorem DTr.anc_lt (T:DTr P ng ops r0 tm tr hp val kd anc): ∀(i j:Nat),anc i j->j<i:=by
 intro i
 induction i using Nat.strongRecOn with
 |_ i ih=>
  intro j h
  obtain ⟨o,ho,e,he,hb,h'⟩:=T.ancI i j h
  have hlt:=T.edge i o ho e he hb
  rcases h' with rfl|h'
  ·exact hlt
  ·exact Nat.lt_trans (ih e.on hlt j h') hlt
theorem DTr.len_succ (T:DTr P ng ops r0 tm tr hp val kd anc) {i:Nat} {o:Oper} (ho:ops[i]? =some o):(hp i).heap.length<=(hp (i+1)).heap.length/\(¬(kd i).isEff->(hp (i+1)).heap.length=(hp i).heap.length):=by
 have hs:=T.step i o ho
 cases hk:kd i with
 |lite=>rw [hk] at hs;rw [hs.1];simp
 |load b=>rw [hk] at hs;rw [hs.1];simp
 |fresh x c e=>rw [hk] at hs;rw [hs.2.2.2.2];simp
 |mk x=>rw [hk] at hs;rw [hs.2.2.2.2.2];simp
 |ins x d k v=>rw [hk] at hs;obtain ⟨_,_,_,l,_,h⟩:=hs;rw [h];simp
 |eff pre=>
  rw [hk] at hs
  obtain ⟨hm,hm',h1,h2,_,_,h5,_⟩:=hs
  have:=h1.touch.len
  exact ⟨by omega,fun h=>absurd trivial h⟩
theorem DTr.other (T:DTr P ng ops r0 tm tr hp val kd anc) {i x:Nat} {o:Oper} (ho:ops[i]? =some o) (he: ¬(kd i).isEff) (hf: ∀c e,kd i≠.fresh x c e) (hm: ∀j,kd j≠.mk x):(hp (i+1)).heap[x]? =(hp i).heap[x]?:=by
 have hs:=T.step i o ho
 cases hk:kd i with
 |lite=>rw [hk] at hs;rw [hs.1]
 |load b=>rw [hk] at hs;rw [hs.1]
 |fresh y c e=>
  rw [hk] at hs;rw [hs.2.2.2.2]
  exact List.getElem?_set_ne (fun h=>hf c e (by rw [hk,h]))
 |mk y=>
  rw [hk] at hs;rw [hs.2.2.2.2.2]
  exact List.getElem?_set_ne (fun h=>hm i (by rw [hk,h]))
 |ins y d k v=>
  obtain ⟨j,hj,_⟩:=T.insM i y d k v hk
  rw [hk] at hs;obtain ⟨_,_,_,l,_,h⟩:=hs;rw [h]
  exact List.getElem?_set_ne (fun h=>hm j (by rw [hj,h]))
 |eff pre=>rw [hk] at he;exact absurd trivial he
theorem DTr.len (T:DTr P ng ops r0 tm tr hp val kd anc): ∀i,i<=ops.size->(hp 0).heap.length<=(hp i).heap.length
 |0,_=>Nat.le_refl _
 |i+1,h=>Nat.le_trans (T.len i (by omega)) (T.len_succ (o:=ops[i]) (by simp [show i<ops.size by omega])).1
theorem DTr.stable (T:DTr P ng ops r0 tm tr hp val kd anc) {p:Nat}: ∀(i:Nat),p<=i->i<=ops.size->(∀j,p<=j->j<i-> ¬(kd j).isEff)->(hp i).heap.length=(hp p).heap.length/\
  ∀x,(∀j c e,p<=j->j<i->kd j≠.fresh x c e)->(∀j,kd j≠.mk x)->(hp i).heap[x]? =(hp p).heap[x]?:=by
 refine Qpa ?_ ?_
 ·intro _ _;exact ⟨rfl,fun _ _ _=>rfl⟩
 ·intro i hpi ih hn hne
  obtain ⟨l1,l2⟩:=ih (by omega) (fun j h1 h2=>hne j h1 (by omega))
  have ho:ops[i]? =some ops[i]:=by simp [show i<ops.size by omega]
  have hnei:=hne i hpi (Nat.lt_succ_self i)
  refine ⟨((T.len_succ ho).2 hnei).trans l1,fun x hx hxm=> ?_⟩
  rw [<-l2 x (fun j c e h1 h2=>hx j c e h1 (by omega)) hxm]
  exact T.other ho hnei (fun c e=>hx i c e hpi (Nat.lt_succ_self i)) hxm
theorem DTr.gone_until (T:DTr P ng ops r0 tm tr hp val kd anc) {j x:Nat} {c:List AVal} {e:TypeId} (hj:kd j=.fresh x c e): ∀i,i<=j->(hp i).heap[x]? =some .gone:=by
 have hjn:j<ops.size:=T.lt (by rw [hj];simp)
 have hsj:=T.step j _ (by simp [hjn]:ops[j]? =some ops[j])
 rw [hj] at hsj
 intro i
 induction i with
 |zero=>intro _;exact hsj.2.2.2.1
 |succ i ih=>
  intro hi
  have ih:=ih (by omega)
  have ho:ops[i]? =some ops[i]:=by simp [show i<ops.size by omega]
  have hs:=T.step i _ ho
  cases hk:kd i with
  |lite=>rw [hk] at hs;rw [hs.1];exact ih
  |load b=>rw [hk] at hs;rw [hs.1];exact ih
  |fresh y c' e'=>
   rw [hk] at hs;rw [hs.2.2.2.2]
   have hxy:y≠x:=fun he=>by subst he;have:=T.uniq i j _ _ _ _ _ hk hj;omega
   simp only [List.getElem?_set_ne hxy];exact ih
  |mk y=>rw [T.other ho (by rw [hk];exact id) (fun c e=>by rw [hk];intro h;cases h) (fun j' h=>T.apart j' j x _ _ h hj)];exact ih
  |ins y d k v=>rw [T.other ho (by rw [hk];exact id) (fun c e=>by rw [hk];intro h;cases h) (fun j' h=>T.apart j' j x _ _ h hj)];exact ih
  |eff pre=>
   rw [hk] at hs
   obtain ⟨hm,hm',h1,h2,h3,h4,h5,h6,h7,h8⟩:=hs
   by_cases hM:Qbv kd anc i x
   ·rw [h6 x hM];exact ih
   ·rw [h7 x hM]
    have hx:hm.heap[x]? =some .gone:=by rw [h4 x hM];exact ih
    have hxl:x<hm.heap.length:=(List.getElem?_eq_some_iff.1 hx).1
    exact Q32 (Nat.lt_of_lt_of_le hxl h1.touch.len) fun hl=>Qgs hx (h1.touch.live x hxl hl)
theorem DTr.gone_untilM (T:DTr P ng ops r0 tm tr hp val kd anc) {j x:Nat} (hj:kd j=.mk x): ∀i,i<=j->(hp i).heap[x]? =some .gone:=by
 have hjn:j<ops.size:=T.lt (by rw [hj];simp)
 have hsj:=T.step j _ (by simp [hjn]:ops[j]? =some ops[j])
 rw [hj] at hsj
 intro i
 induction i with
 |zero=>intro _;exact hsj.2.2.2.2.1
 |succ i ih=>
  intro hi
  have ih:=ih (by omega)
  have ho:ops[i]? =some ops[i]:=by simp [show i<ops.size by omega]
  have hs:=T.step i _ ho
  cases hk:kd i with
  |lite=>rw [hk] at hs;rw [hs.1];exact ih
  |load b=>rw [hk] at hs;rw [hs.1];exact ih
  |fresh y c' e'=>
   rw [hk] at hs;rw [hs.2.2.2.2]
   have hxy:y≠x:=fun he=>by subst he;exact T.apart j i y _ _ hj hk
   simp only [List.getElem?_set_ne hxy];exact ih
  |mk y=>
   rw [hk] at hs;rw [hs.2.2.2.2.2]
   have hxy:y≠x:=fun he=>by subst he;have:=T.uniqM i j y hk hj;omega
   simp only [List.getElem?_set_ne hxy];exact ih
  |ins y d k v=>
   obtain ⟨j',hj',ha⟩:=T.insM i y d k v hk
   have hlt:=T.anc_lt i j' ha
   rw [hk] at hs;obtain ⟨_,_,_,l,_,h⟩:=hs;rw [h]
   have hxy:y≠x:=fun he=>by subst he;have:=T.uniqM j' j y hj' hj;omega
   simp only [List.getElem?_set_ne hxy];exact ih
  |eff pre=>
   rw [hk] at hs
   obtain ⟨hm,hm',h1,h2,h3,h4,h5,h6,h7,h8⟩:=hs
   by_cases hM:Qbv kd anc i x
   ·rw [h6 x hM];exact ih
   ·rw [h7 x hM]
    have hx:hm.heap[x]? =some .gone:=by rw [h4 x hM];exact ih
    have hxl:x<hm.heap.length:=(List.getElem?_eq_some_iff.1 hx).1
    exact Q32 (Nat.lt_of_lt_of_le hxl h1.touch.len) fun hl=>Qgs hx (h1.touch.live x hxl hl)
theorem DTr.filled (T:DTr P ng ops r0 tm tr hp val kd anc) {j x:Nat} {c:List AVal} {e:TypeId} (hj:kd j=.fresh x c e) {i:Nat} (hji:j<i) (hi:i<=ops.size) (hne: ∀k,j<k->k<i-> ¬(kd k).isEff):
  (hp i).heap[x]? =some (.cells c e):=by
 have hjn:j<ops.size:=T.lt (by rw [hj];simp)
 have hg:=T.gone_until hj j (Nat.le_refl _)
 have hsj:=T.step j _ (by simp [hjn]:ops[j]? =some ops[j])
 rw [hj] at hsj
 have h1:(hp (j+1)).heap[x]? =some (.cells c e):=by
  rw [hsj.2.2.2.2]
  have:=(List.getElem?_eq_some_iff.1 hg).1
  simp [this]
 rw [(T.stable i hji hi (fun k h1 h2=>hne k h1 h2)).2 x (fun k c' e' h1 h2 hk=>by have:=T.uniq k j _ _ _ _ _ hk hj;omega) (fun k hk=>T.apart k j x _ _ hk hj)]
 exact h1
theorem DTr.chain (T:DTr P ng ops r0 tm tr hp val kd anc) {x p:Nat} (hx:x<(hp p).heap.length) (hxm: ∀j,kd j≠.mk x): ∀(i:Nat),p<=i->i<=ops.size->(∀j c e,p<=j->j<i->kd j≠.fresh x c e)->
  (∀j pre,p<=j->j<i->kd j=.eff pre->x∉pre)->(hp i).heap[x]? =(hp p).heap[x]?:=by
 refine Qpa ?_ ?_
 ·intro _ _ _;rfl
 ·intro i hpi ih hn hf he
  have ih:=ih (by omega) (fun j c e h1 h2=>hf j c e h1 (by omega)) (fun j pre h1 h2=>he j pre h1 (by omega))
  rw [<-ih]
  have ho:ops[i]? =some ops[i]:=by simp [show i<ops.size by omega]
  have hs:=T.step i _ ho
  cases hk:kd i with
  |lite=>rw [hk] at hs;rw [hs.1]
  |load b=>rw [hk] at hs;rw [hs.1]
  |fresh y c e=>
   rw [hk] at hs;rw [hs.2.2.2.2]
   exact List.getElem?_set_ne (fun he=>hf i c e hpi (Nat.lt_succ_self i) (by rw [hk,he]))
  |mk y=>exact T.other ho (by rw [hk];exact id) (fun c e=>by rw [hk];intro h;cases h) hxm
  |ins y d k v=>exact T.other ho (by rw [hk];exact id) (fun c e=>by rw [hk];intro h;cases h) hxm
  |eff pre=>
   rw [hk] at hs
   obtain ⟨hm,hm',h1,h2,h3,h4,h5,h6,h7,h8⟩:=hs
   by_cases hM:Qbv kd anc i x
   ·exact h6 x hM
   ·rw [h7 x hM,<-h4 x hM]
    refine h8 x ?_ (he i pre hpi (Nat.lt_succ_self i) hk)
    have:x<(hp i).heap.length:=by
     have e1:(hp i).heap[x]? =some (hp p).heap[x]:=by rw [ih];simp [hx]
     exact (List.getElem?_eq_some_iff.1 e1).1
    omega
theorem Qxc (T:DTr P ng ops r0 tm tr hp val kd anc): ∀(m:Nat),m<=ops.size->(tm m).len=(tm 0).len/\(∀(d:Nat) (v:AVal),(∀(i:Nat) (o:Oper),i<m->ops[i]? =some o->o.dst≠some d)->(tm m).get d=some v->(tm 0).get d=some v)/\
  ∀(i:Nat) (o:Oper) (d:Nat) (v:AVal),i<m->ops[i]? =some o->o.dst=some d->(tm m).get d=some v->v=val i
 |0,_=>⟨rfl,fun _ _ _ h=>h,fun _ _ _ _ h=>by omega⟩
 |m+1,hm=>by
  obtain ⟨h1,h2,h3⟩:=Qxc T m (by omega)
  have ho:ops[m]? =some ops[m]:=by simp [show m<ops.size by omega]
  rw [T.tmS m _ ho]
  have hlen:(putA (tm m) ops[m].dst (val m)).len=(tm m).len:=by cases hd:ops[m].dst<;>rfl
  have back: ∀(d:Nat) (v:AVal),(putA (tm m) ops[m].dst (val m)).get d=some v->(ops[m].dst=some d/\v=val m)\/(ops[m].dst≠some d/\(tm m).get d=some v):=by
   intro d v hv
   cases hdd:ops[m].dst with
   |none=>rw [hdd] at hv;exact .inr ⟨by simp,hv⟩
   |some d'=>
    rw [hdd] at hv
    simp only [putA] at hv
    have hlt:=Tm.get_lt hv
    rcases TT.get_put _ _ _ _ _ (Tm.get_tr hv) with ⟨rfl,rfl⟩|⟨hne,hv⟩
    ·exact .inl ⟨rfl,rfl⟩
    ·exact .inr ⟨fun e=>hne (Option.some.inj e).symm,Tm.get_of hv hlt⟩
  refine ⟨hlen.trans h1,?_,?_⟩
  ·intro d v hd hv
   rcases back d v hv with ⟨h9,_⟩|⟨_,h9⟩
   ·exact absurd h9 (hd m _ (Nat.lt_succ_self m) ho)
   ·exact h2 d v (fun i o hi=>hd i o (by omega)) h9
  ·intro i o d v hi hoi hd hv
   rcases back d v hv with ⟨h8,h9⟩|⟨h8,h9⟩
   ·have:=T.dst i m _ _ _ hoi ho hd h8
    subst this;exact h9
   ·rcases Nat.lt_or_ge i m with h7|h7
    ·exact h3 i o d v h7 hoi hd h9
    ·have:i=m:=by omega
     subst this
     rw [ho] at hoi;cases hoi
     exact absurd hd h8
def Ls (listed:Array Bool) (i:Nat):Prop:=listed.getD i false=true
theorem Qr (listed:Array Bool) (i j:Nat) (hi:i<listed.size):Ls (listed.setIfInBounds i true) j↔j=i\/Ls listed j:=by
 unfold Ls
 by_cases h:j=i
 ·subst h;simp [hi]
 ·simp [h,Array.getElem?_setIfInBounds_ne (Ne.symm h)]
def ents (kd:Nat->DK) (listed:Array Bool) (x:Nat):Nat->List (AVal×AVal)
 |0=>[]
 |n+1=>match kd n with
  |.ins y _ k v=>if y=x/\listed.getD n false=true then ents kd listed x n++[(k,v)] else ents kd listed x n
  |_=>ents kd listed x n
theorem Qiz {kd:Nat->DK} {listed:Array Bool} {x i:Nat} (hi:i<listed.size) (hk: ∀d k v,kd i≠.ins x d k v): ∀n,ents kd (listed.setIfInBounds i true) x n=ents kd listed x n
 |0=>rfl
 |n+1=>by
  have ih:=Qiz hi hk n
  simp only [ents]
  split
  ·rename_i y d k v hn
   have hls:=Qr listed i n hi
   unfold Ls at hls
   by_cases hy:y=x
   ·subst hy
    have hne:n≠i:=fun e=>hk d k v (by rw [<-e];exact hn)
    simp only [hls,hne,false_or,ih]
   ·simp only [hy,false_and,if_false,ih]
  ·exact ih
theorem Qzd {kd:Nat->DK} {listed:Array Bool} {x i:Nat} {d:TypeDesc} {k v:AVal} (hi:i<listed.size) (hk:kd i=.ins x d k v) (hn: ¬Ls listed i): ∀n,i<n->(ents kd listed x n++[(k,v)]).Perm (ents kd (listed.setIfInBounds i true) x n)
 |0,h=>by omega
 |n+1,h=>by
  have hls:=Qr listed i n hi
  unfold Ls at hls hn
  by_cases hni:n=i
  ·subst hni
   have e: ∀m,m<=n->ents kd (listed.setIfInBounds n true) x m=ents kd listed x m:=by
    intro m
    induction m with
    |zero=>intro _;rfl
    |succ m ih=>
     intro hm
     have ih:=ih (by omega)
     have hls2:=Qr listed n m hi
     unfold Ls at hls2
     simp only [ents]
     split
     ·have hne:m≠n:=by omega
      simp only [hls2,hne,false_or,ih]
     ·exact ih
   simp only [ents,hk,e n (Nat.le_refl _),hls,true_or,and_self,if_true]
   rw [if_neg (by intro h;exact hn h.2)]
  ·have ih:=Qzd hi hk hn n (by omega)
   simp only [ents]
   split
   ·rename_i y d' k' v' hy
    simp only [hls,hni,false_or]
    split
    ·refine List.Perm.trans ?_ (ih.append_right [(k',v')])
     simp only [List.append_assoc]
     exact List.Perm.append_left _ (List.Perm.swap _ _ _)
    ·exact ih
   ·exact ih
theorem Qiy {kd:Nat->DK} {listed:Array Bool} {x:Nat} {q:AVal×AVal}: ∀n,q∈ents kd listed x n-> ∃i d,i<n/\Ls listed i/\kd i=.ins x d q.1 q.2
 |0,h=>by simp [ents] at h
 |n+1,h=>by
  simp only [ents] at h
  split at h
  ·rename_i y d k v hn
   split at h
   ·rename_i hc
    rcases List.mem_append.1 h with h|h
    ·obtain ⟨i,d',h1,h2,h3⟩:=Qiy n h
     exact ⟨i,d',by omega,h2,h3⟩
    ·simp at h;subst h
     exact ⟨n,d,by omega,hc.2,by rw [hn,hc.1]⟩
   ·obtain ⟨i,d',h1,h2,h3⟩:=Qiy n h
    exact ⟨i,d',by omega,h2,h3⟩
  ·obtain ⟨i,d',h1,h2,h3⟩:=Qiy n h
   exact ⟨i,d',by omega,h2,h3⟩
theorem Qzs {d:TypeDesc} {k:AVal}: ∀{l:List (AVal×AVal)},(∀q∈l,(∃u,keyA d q.1=some u)/\Qf9 q.1 k=false)->Qex d k l=some none
 |[],_=>rfl
 |(k',v)::l,h=>by
  obtain ⟨⟨u,h1⟩,h2⟩:=h (k',v) (by simp)
  simp only [Qex]
  simp only [] at h1 h2
  rw [h1,h2]
  exact Qzs fun q hq=>h q (List.mem_cons_of_mem _ hq)
structure Inv (P:Program) (ng:Cx) (ops:Array Oper) (r0:Nat) (tm:Nat->Tm) (hp:Nat->Hp) (val:Nat->AVal) (kd:Nat->DK) (g0:Inj) (H0:List Blk) (w0:World) (a0:Act) (listed:Array Bool) (p:Nat) (g:Inj) (H:List Blk)
  (a:Act) (w:World):Prop where
 lsz:listed.size=ops.size
 down: ∀(i:Nat) (o:Oper),ops[i]? =some o->Ls listed i-> ∀e,e∈o.after->Region.binds .any e=true->Ls listed e.on
 pn:p<=ops.size
 pl:p=0\/(0<p/\(kd (p-1)).isEff/\Ls listed (p-1))
 ph: ∀j,p<=j->(kd j).isEff-> ¬Ls listed j
 hlen:H.length=(hp p).heap.length
 h1: ∀x,(∀j c e,kd j≠.fresh x c e)->(∀j,kd j≠.mk x)->H[x]? =(hp p).heap[x]?
 h4: ∀j x,kd j=.mk x->(Ls listed j-> ∃l,H[x]? =some (.map l)/\l.Perm (ents kd listed x ops.size))/\(¬Ls listed j->H[x]? =some .gone/\g x=none)
 h2: ∀j x c e,kd j=.fresh x c e->Ls listed j->H[x]? =if j<p then (hp p).heap[x]? else some (.cells c e)
 h3: ∀j x c e,kd j=.fresh x c e-> ¬Ls listed j->H[x]? =some .gone/\g x=none
 rel:HRel ng g H w
 ext:Ext g0 H0 w0 g H w
 asz:a.tmps.size=a0.tmps.size
 adf:a.defers=a0.defers
 t1: ∀(i:Nat) (o:Oper) (d:Nat),ops[i]? =some o->o.dst=some d->Ls listed i->d<(tm 0).len-> ∃u,a.tmps[d]? =some u/\VRel g (val i) u
 t2: ∀(d:Nat) (v:AVal),(∀(i:Nat) (o:Oper),ops[i]? =some o->Ls listed i->o.dst≠some d)->(tm 0).get d=some v-> ∃u,a.tmps[d]? =some u/\VRel g v u
end
end Go.Ev
namespace Go.Ev
section
variable {P : Program} {ng : Cx} {ops : Array Oper} {r0 : Nat} {tm tr : Nat -> Tm} {hp : Nat -> Hp} {val : Nat -> AVal} {kd : Nat -> DK} {anc : Nat -> Nat -> Prop}
variable {g0 : Inj} {H0 : List Blk} {w0 : World} {a0 : Act} {listed : Array Bool} {p : Nat} {g : Inj} {H : List Blk} {a : Act} {w : World}
theorem Qgn (T:DTr P ng ops r0 tm tr hp val kd anc) (down: ∀(i:Nat) (o:Oper),ops[i]? =some o->Ls listed i-> ∀e,e∈o.after->Region.binds .any e=true->Ls listed e.on):
  ∀(i:Nat),Ls listed i-> ∀j,anc i j->Ls listed j:=by
 intro i
 induction i using Nat.strongRecOn with
 |_ i ih=>
  intro hi j h
  obtain ⟨o,ho,e,he,hb,h'⟩:=T.ancI i j h
  have hl:=down i o ho hi e he hb
  rcases h' with rfl|h'
  ·exact hl
  ·exact ih e.on (T.edge i o ho e he hb) hl j h'
theorem Q26 {S:Nat->Blk->Prop}: ∀(n:Nat),(∀x,x<n-> ∃k,S x k)-> ∃L:List Blk,L.length=n/\ ∀x,x<n-> ∃k,L[x]? =some k/\S x k
 |0,_=>⟨[],rfl,fun x hx=>by omega⟩
 |n+1,h=>by
  obtain ⟨L,h1,h2⟩:=Q26 n (fun x hx=>h x (by omega))
  obtain ⟨k,hk⟩:=h n (Nat.lt_succ_self n)
  refine ⟨L++[k],by simp [h1],fun x hx=> ?_⟩
  rcases Nat.lt_or_ge x n with h9|h9
  ·obtain ⟨k',q1,q2⟩:=h2 x h9
   exact ⟨k',by rw [List.getElem?_append_left (by omega)];exact q1,q2⟩
  ·have:x=n:=by omega
   subst this
   exact ⟨k,by rw [<-h1];simp,hk⟩
structure Rdy (ops:Array Oper) (listed:Array Bool) (i:Nat) (o:Oper):Prop where
 op:ops[i]? =some o
 no: ¬Ls listed i
 edges: ∀e,e∈o.after->Region.binds .any e=true->Ls listed e.on
theorem Qcm {i:Nat} {o:Oper} (hr:Rdy ops listed i o):i<ops.size:=(Array.getElem?_eq_some_iff.1 hr.op).1
theorem Qg3 {i:Nat} (hl:listed.size=ops.size) (h:i∈Region.ready .any ops listed): ∃o,Rdy ops listed i o:=by
 unfold Region.ready at h
 simp only [List.mem_filter,List.mem_range,Bool.and_eq_true,Bool.not_eq_true'] at h
 obtain ⟨hi,h1,h2⟩:=h
 have ho:ops[i]? =some ops[i]:=by simp [hi]
 refine ⟨ops[i],ho,?_,?_⟩
 ·unfold Ls
  have:i<listed.size:=by omega
  simp [this] at h1⊢
  exact h1
 ·intro e he hb
  rw [ho] at h2
  simp only [Option.map_some,Option.getD_some,Array.all_eq_true_iff_forall_mem] at h2
  have:=h2 e he
  simpa [hb,Ls] using this
theorem Qbgy (T:DTr P ng ops r0 tm tr hp val kd anc) (hl:listed.size=ops.size) (h:Region.ready .any ops listed=[]): ∀i,i<ops.size->Ls listed i:=by
 intro i
 induction i using Nat.strongRecOn with
 |_ i ih=>
  intro hi
  refine Classical.byContradiction fun hn=> ?_
  have ho:ops[i]? =some ops[i]:=by simp [hi]
  have hm:i∈Region.ready .any ops listed:=by
   unfold Region.ready
   simp only [List.mem_filter,List.mem_range,Bool.and_eq_true,Bool.not_eq_true']
   refine ⟨hi,?_,?_⟩
   ·unfold Ls at hn
    have:i<listed.size:=by omega
    simp [this] at hn⊢
    exact hn
   ·rw [ho]
    simp only [Option.map_some,Option.getD_some,Array.all_eq_true_iff_forall_mem]
    intro e he
    by_cases hb:Region.binds .any e=true
    ·have:=ih e.on (T.edge i _ ho e he hb) (by have:=T.edge i _ ho e he hb;omega)
     simpa [hb,Ls] using this
    ·simp [hb]
  rw [h] at hm
  cases hm
theorem Qjv (T:DTr P ng ops r0 tm tr hp val kd anc) (I:Inv P ng ops r0 tm hp val kd g0 H0 w0 a0 listed p g H a w) {i:Nat} {o:Oper} (hr:Rdy ops listed i o) {j:Nat} (h:anc i j):Ls listed j:=by
 obtain ⟨o',ho,e,he,hb,h'⟩:=T.ancI i j h
 rw [hr.op] at ho;cases ho
 have hl:=hr.edges e he hb
 rcases h' with rfl|h'
 ·exact hl
 ·exact Qgn T I.down e.on hl j h'
theorem Q44 (T:DTr P ng ops r0 tm tr hp val kd anc) (I:Inv P ng ops r0 tm hp val kd g0 H0 w0 a0 listed p g H a w) (ht0:(tm 0).len<=a0.tmps.size) {i:Nat} {o:Oper} (hr:Rdy ops listed i o):TRel g (tr i) a:=by
 have hi:=Qcm hr
 obtain ⟨k1,k2,k3⟩:=Qxc T i (by omega)
 refine ⟨by rw [T.trl,k1,I.asz];exact ht0,?_⟩
 intro d v hd
 obtain ⟨h1,h2⟩:=T.reads i d v hi hd
 by_cases hw: ∃j y,j<i/\ops[j]? =some y/\y.dst=some d
 ·obtain ⟨j,y,hj,hy,hyd⟩:=hw
  have hl:Ls listed j:=by
   rcases h2 j y hy hyd (by omega) with h|h
   ·exact Qjv T I hr h
   ·have:=T.anc_lt j i h;omega
  have hlt:d<(tm 0).len:=by rw [<-k1];exact Tm.get_lt h1
  rw [k3 j y d v hj hy hyd h1]
  exact I.t1 j y d hy hyd hl hlt
 ·have hno: ∀(j:Nat) (y:Oper),j<i->ops[j]? =some y->y.dst≠some d:=fun j y hj hy hyd=>hw ⟨j,y,hj,hy,hyd⟩
  have h1:=k2 d v hno h1
  refine I.t2 d v ?_ h1
  intro j y hy hl hyd
  have hji:j≠i:=fun e=>hr.no (e▸hl)
  rcases h2 j y hy hyd hji with h|h
  ·exact hno j y (T.anc_lt i j h) hy hyd
  ·exact hr.no (Qgn T I.down j hl i h)
theorem Qnb (T:DTr P ng ops r0 tm tr hp val kd anc) (I:Inv P ng ops r0 tm hp val kd g0 H0 w0 a0 listed p g H a w) {i:Nat} {o:Oper} (hr:Rdy ops listed i o) {g':Inj} {u:Value} (hs:Sub g g') (hv:VRel g' (val i) u) (ht0:(tm 0).len<=a0.tmps.size):
  (∀(j:Nat) (y:Oper) (d:Nat),ops[j]? =some y->y.dst=some d->Ls (listed.setIfInBounds i true) j->d<(tm 0).len-> ∃u',(a.put o.dst u).tmps[d]? =some u'/\VRel g' (val j) u')/\
  (∀(d:Nat) (v:AVal),(∀(j:Nat) (y:Oper),ops[j]? =some y->Ls (listed.setIfInBounds i true) j->y.dst≠some d)->(tm 0).get d=some v-> ∃u',(a.put o.dst u).tmps[d]? =some u'/\VRel g' v u'):=by
 have hi:=Qcm hr
 have hil:i<listed.size:=by rw [I.lsz];exact hi
 constructor
 ·intro j y d hy hyd hl hlt
  rw [Qr listed i j hil] at hl
  rcases hl with rfl|hl
  ·rw [hr.op] at hy;cases hy
   refine ⟨u,?_,hv⟩
   have:d<a.tmps.size:=by rw [I.asz];omega
   simp [Act.put,hyd,this]
  ·obtain ⟨u',h1,h2⟩:=I.t1 j y d hy hyd hl hlt
   refine ⟨u',?_,h2.mono hs⟩
   cases hod:o.dst with
   |none=>simpa [Act.put] using h1
   |some d'=>
    simp only [Act.put]
    rw [Array.getElem?_setIfInBounds_ne]
    ·exact h1
    ·intro he
     subst he
     have:=T.dst i j _ _ _ hr.op hy hod hyd
     subst this
     exact hr.no hl
 ·intro d v hno hd
  obtain ⟨u',h1,h2⟩:=I.t2 d v (fun j y hy hl=>hno j y hy ((Qr listed i j hil).2 (.inr hl))) hd
  refine ⟨u',?_,h2.mono hs⟩
  have hod:=hno i o hr.op ((Qr listed i i hil).2 (.inl rfl))
  cases ho:o.dst with
  |none=>simpa [Act.put] using h1
  |some d'=>
   simp only [Act.put]
   rw [Array.getElem?_setIfInBounds_ne (fun he=>hod (by rw [ho,he]))]
   exact h1
theorem Qkx (I:Inv P ng ops r0 tm hp val kd g0 H0 w0 a0 listed p g H a w) {i:Nat} {o:Oper} (hr:Rdy ops listed i o): ∀(j:Nat) (y:Oper),ops[j]? =some y->Ls (listed.setIfInBounds i true) j-> ∀e,e∈y.after->Region.binds .any e=true->Ls (listed.setIfInBounds i true) e.on:=by
 have hil:i<listed.size:=by rw [I.lsz];exact Qcm hr
 intro j y hy hl e he hb
 rw [Qr listed i _ hil] at hl⊢
 rcases hl with rfl|hl
 ·rw [hr.op] at hy;cases hy
  exact .inr (hr.edges e he hb)
 ·exact .inr (I.down j y hy hl e he hb)
theorem Q0p (T:DTr P ng ops r0 tm tr hp val kd anc) (I:Inv P ng ops r0 tm hp val kd g0 H0 w0 a0 listed p g H a w) {i:Nat} {o:Oper} (hr:Rdy ops listed i o) (hk: ¬(kd i).isEff) (hf: ∀x c e,kd i≠.fresh x c e) (hfm: ∀x,kd i≠.mk x) (hfi: ∀x d k v,kd i≠.ins x d k v) {g':Inj} {u:Value} {w':World} (hv:VRel g' (val i) u) (hH':HRel ng g' H w') (hE:Ext g H w g' H w')
  (hr0:HRel ng g0 H0 w0) (ht0:(tm 0).len<=a0.tmps.size):Inv P ng ops r0 tm hp val kd g0 H0 w0 a0 (listed.setIfInBounds i true) p g' H (a.put o.dst u) w':=by
 have hil:i<listed.size:=by rw [I.lsz];exact Qcm hr
 obtain ⟨t1,t2⟩:=Qnb T I hr hE.sub hv ht0
 refine ⟨by simp [I.lsz],Qkx I hr,I.pn,?_,?_,I.hlen,I.h1,?_,?_,?_,hH',Ext.trans hr0 I.ext hE,?_,?_,t1,t2⟩
 ·rcases I.pl with h|⟨h,h',h''⟩
  ·exact .inl h
  ·exact .inr ⟨h,h',(Qr listed i _ hil).2 (.inr h'')⟩
 ·intro j hj he hl
  rw [Qr listed i _ hil] at hl
  rcases hl with rfl|hl
  ·exact hk he
  ·exact I.ph j hj he hl
 ·intro j x hj
  rw [Qiz hil (hfi x),Qr listed i _ hil]
  obtain ⟨k1,k2⟩:=I.h4 j x hj
  refine ⟨fun hl=> ?_,fun hl=> ?_⟩
  ·rcases hl with rfl|hl
   ·exact absurd hj (hfm x)
   ·exact k1 hl
  ·obtain ⟨q1,q2⟩:=k2 (fun h=>hl (.inr h))
   refine ⟨q1,?_⟩
   cases hg:g' x with
   |none=>rfl
   |some L=>
    have:=(hE.new x L hg q2).1
    have h9:=(List.getElem?_eq_some_iff.1 q1).1
    omega
 ·intro j x c e hj hl
  rw [Qr listed i _ hil] at hl
  rcases hl with rfl|hl
  ·exact absurd hj (hf x c e)
  ·exact I.h2 j x c e hj hl
 ·intro j x c e hj hl
  rw [Qr listed i _ hil] at hl
  obtain ⟨k1,k2⟩:=I.h3 j x c e hj (fun h=>hl (.inr h))
  refine ⟨k1,?_⟩
  cases hg:g' x with
  |none=>rfl
  |some L=>
   have:=(hE.new x L hg k2).1
   have h9:=(List.getElem?_eq_some_iff.1 k1).1
   omega
 ·rw [<-I.asz];cases o.dst<;>simp [Act.put]
 ·rw [<-I.adf];cases o.dst<;>rfl
theorem Qbe3 (T:DTr P ng ops r0 tm tr hp val kd anc) (I:Inv P ng ops r0 tm hp val kd g0 H0 w0 a0 listed p g H a w) {i:Nat} {o:Oper} (hr:Rdy ops listed i o) {b:Option Nat} (hk:kd i=.load b) (ht0:(tm 0).len<=a0.tmps.size):Qcf P ng (tr i) o.op H=some (val i,b):=by
 have hs:=T.step i o hr.op
 rw [hk] at hs
 obtain ⟨_,hw,hl⟩:=hs
 have hi:=Qcm hr
 have hT:=Q44 T I ht0 hr
 refine Qbez hl fun x hx=> ?_
 subst hx
 have hρ:ERel g ng (tr i) a.eval:=⟨fun y v hv=>hT.eval I.rel.sig I.rel.glob hv,I.rel.sig⟩
 obtain ⟨L,hL⟩:=Qbe0 hρ hl
 obtain ⟨c0,hlive,hc0⟩:=Qbe1 hl
 have hxH:x<(hp p).heap.length:=by rw [<-I.hlen];exact (I.rel.dom x L hL).1
 have hxi:x<(hp i).heap.length:=(List.getElem?_eq_some_iff.1 hlive).1
 have hun1: ∀j pre,p<=j->j<i->kd j=.eff pre->x∉pre:=by
  intro j pre h1 h2 h3
  refine T.loads i x j pre hk h3 (fun h=> ?_) (fun h=> ?_)
  ·exact I.ph j h1 (by rw [h3];trivial) (Qjv T I hr h)
  ·have:=T.anc_lt j i h;omega
 have hun2: ∀j pre,i<=j->j<p->kd j=.eff pre->x∉pre:=by
  intro j pre h1 h2 h3
  refine T.loads i x j pre hk h3 (fun h=> ?_) (fun h=> ?_)
  ·have:=T.anc_lt i j h;omega
  ·have hlj:Ls listed j:=by
    rcases I.pl with h0|⟨h0,h0',h0''⟩
    ·omega
    ·rcases Nat.lt_or_ge j (p-1) with h9|h9
     ·exact Qgn T I.down (p-1) h0'' j (T.effs j (p-1) h9 (by rw [h3];trivial) h0')
     ·have:j=p-1:=by omega
      rw [this];exact h0''
   exact hr.no (Qgn T I.down j hlj i h)
 by_cases hown: ∃j c e,kd j=.fresh x c e
 ·obtain ⟨j,c,e,hj⟩:=hown
  have hnm: ∀j',kd j'≠.mk x:=fun j'=>T.loadsM i j' x hk
  have hlj:Ls listed j:=by
   refine Classical.byContradiction fun hn=> ?_
   have:=(I.h3 j x c e hj hn).2
   rw [hL] at this;cases this
  have hji:j<i:=by
   rcases Nat.lt_or_ge j i with h9|h9
   ·exact h9
   ·have:=T.gone_until hj i h9
    rw [hlive] at this;cases this;exact absurd rfl hc0
  rw [I.h2 j x c e hj hlj]
  have huq: ∀k c' e',kd k=.fresh x c' e'->k=j:=fun k c' e' hk'=>T.uniq k j _ _ _ _ _ hk' hj
  split
  ·rename_i hjp
   rcases Nat.le_total p i with hpi|hpi
   ·exact (T.chain hxH hnm i hpi (by omega) (fun k c' e' h1 _ hk'=>by have:=huq k c' e' hk';omega) hun1).symm
   ·exact T.chain hxi hnm p hpi I.pn (fun k c' e' h1 _ hk'=>by have:=huq k c' e' hk';omega) hun2
  ·rename_i hjp
   have hf:=T.filled hj (Nat.lt_succ_self j) (by omega) (fun k h1 h2=>by omega)
   have hxj:x<(hp (j+1)).heap.length:=(List.getElem?_eq_some_iff.1 hf).1
   rw [<-hf]
   exact (T.chain hxj hnm i hji (by omega) (fun k c' e' h1 _ hk'=>by have:=huq k c' e' hk';omega) (fun k pre h1 h2 h3=>hun1 k pre (by omega) h2 h3)).symm
 ·have hno: ∀j c e,kd j≠.fresh x c e:=fun j c e hj=>hown ⟨j,c,e,hj⟩
  have hnm: ∀j',kd j'≠.mk x:=fun j'=>T.loadsM i j' x hk
  rw [I.h1 x hno hnm]
  rcases Nat.le_total p i with hpi|hpi
  ·exact (T.chain hxH hnm i hpi (by omega) (fun k c' e' _ _=>hno k c' e') hun1).symm
  ·exact T.chain hxi hnm p hpi I.pn (fun k c' e' _ _=>hno k c' e') hun2
theorem Q97 (T:DTr P ng ops r0 tm tr hp val kd anc) (I:Inv P ng ops r0 tm hp val kd g0 H0 w0 a0 listed p g H a w) {i x:Nat} {c:List AVal} {e:TypeId} {o:Oper} (hr:Rdy ops listed i o) (hk:kd i=.fresh x c e) (hip:i<p):(hp p).heap[x]? =some (.cells c e):=by
 have key: ∀k,i+1<=k->(k<=p->(hp k).heap[x]? =some (.cells c e)):=by
  refine Qpa ?_ ?_
  ·intro _
   exact T.filled hk (Nat.lt_succ_self i) (by have:=I.pn;omega) (fun k h1 h2=>by omega)
  ·intro k hik ih hkp
   have ih:=ih (by omega)
   have hkn:k<ops.size:=by have:=I.pn;omega
   have ho:ops[k]? =some ops[k]:=by simp [hkn]
   have hs:=T.step k _ ho
   cases hkk:kd k with
   |lite=>rw [hkk] at hs;rw [hs.1];exact ih
   |load b=>rw [hkk] at hs;rw [hs.1];exact ih
   |fresh y c' e'=>
    rw [hkk] at hs;rw [hs.2.2.2.2]
    have hxy:y≠x:=fun he=>by subst he;have:=T.uniq k i _ _ _ _ _ hkk hk;omega
    simp only [List.getElem?_set_ne hxy];exact ih
   |mk y=>rw [T.other ho (by rw [hkk];exact id) (fun c e=>by rw [hkk];intro h;cases h) (fun j' h=>T.apart j' i x _ _ h hk)];exact ih
   |ins y d k' v=>rw [T.other ho (by rw [hkk];exact id) (fun c e=>by rw [hkk];intro h;cases h) (fun j' h=>T.apart j' i x _ _ h hk)];exact ih
   |eff pre=>
    rw [hkk] at hs
    obtain ⟨hm,hm',h1,h2,h3,h4,h5,h6,h7,h8⟩:=hs
    have hlk:Ls listed k:=by
     rcases I.pl with h0|⟨h0,h0',h0''⟩
     ·omega
     ·rcases Nat.lt_or_ge k (p-1) with h9|h9
      ·exact Qgn T I.down (p-1) h0'' k (T.effs k (p-1) h9 (by rw [hkk];trivial) h0')
      ·have:k=p-1:=by omega
       rw [this];exact h0''
    have hM:Qbv kd anc k x:=.inl ⟨i,c,e,by omega,hk,fun h=>hr.no (Qgn T I.down k hlk i h)⟩
    rw [h6 x hM];exact ih
 exact key p hip (Nat.le_refl _)
theorem Qbap (T:DTr P ng ops r0 tm tr hp val kd anc) (I:Inv P ng ops r0 tm hp val kd g0 H0 w0 a0 listed p g H a w) {i x:Nat} {c:List AVal} {e:TypeId} {m:Mk} {o:Oper} (hr:Rdy ops listed i o) (hk:kd i=.fresh x c e) (hval:val i=m.val x) {u:Value} {C:Array Value} {fr:Nat×Nat} {w1:World}
  (hF:Fresh P g a.eval w o c e m u C fr w1) (hH0:H0.length=r0) (ht0:(tm 0).len<=a0.tmps.size):
  ∃g' H',Inv P ng ops r0 tm hp val kd g0 H0 w0 a0 (listed.setIfInBounds i true) p g' H' (a.put o.dst u) (w1.alloc (.cells C e fr)):=by
 have hil:i<listed.size:=by rw [I.lsz];exact Qcm hr
 obtain ⟨hHx,hgx⟩:=I.h3 i x c e hk hr.no
 have hs:=T.step i o hr.op
 rw [hk] at hs
 obtain ⟨_,_,hx0,hx1,_⟩:=hs
 have hxl:x<H.length:=(List.getElem?_eq_some_iff.1 hHx).1
 have hng:ng.n<=x:=by
  rcases Nat.lt_or_ge x ng.n with h9|h9
  ·obtain ⟨L,hL,_⟩:=I.rel.glob x h9
   rw [hgx] at hL;cases hL
  ·exact h9
 have hal:=HRel.alloc I.rel (H':=H.set x (.cells c e)) hgx hng (c:=c) (e:=e) (C:=C) (fr:=fr) hF.heap hF.os hF.tape hF.output (by simp [hxl]) (fun j hj=>List.getElem?_set_ne (Ne.symm hj)) (by simp)
  (.inr (Qgs hHx)) hF.fr hF.len hF.rel
 have hsub:=Qfd (⟨w.heap.size,0,C.size⟩:Loc) hgx
 have hv:VRel (upd g x ⟨w.heap.size,0,C.size⟩) (val i) u:=by rw [hval];exact hF.val _ _ (Qx _ _ _)
 obtain ⟨t1,t2⟩:=Qnb T I hr hsub hv ht0
 refine ⟨upd g x ⟨w.heap.size,0,C.size⟩,H.set x (.cells c e),by simp [I.lsz],Qkx I hr,I.pn,?_,?_,by simp [I.hlen],?_,?_,?_,?_,hal.1,?_,?_,?_,t1,t2⟩
 ·rcases I.pl with h|⟨h,h',h''⟩
  ·exact .inl h
  ·exact .inr ⟨h,h',(Qr listed i _ hil).2 (.inr h'')⟩
 ·intro j hj he hl
  rw [Qr listed i _ hil] at hl
  rcases hl with rfl|hl
  ·rw [hk] at he;exact he
  ·exact I.ph j hj he hl
 ·intro y hy hym
  have hxy:x≠y:=fun he=>hy i c e (by rw [hk,he])
  rw [List.getElem?_set_ne hxy];exact I.h1 y hy hym
 ·intro j y hj
  have hxy:x≠y:=fun he=>by subst he;exact T.apart j i x _ _ hj hk
  rw [List.getElem?_set_ne hxy,Qs g _ (Ne.symm hxy),Qiz hil (by rw [hk];intro d k v h;cases h),Qr listed i _ hil]
  have hji:j≠i:=fun h=>by rw [h,hk] at hj;cases hj
  obtain ⟨k1,k2⟩:=I.h4 j y hj
  exact ⟨fun h=>k1 (h.resolve_left hji),fun h=>k2 (fun h'=>h (.inr h'))⟩
 ·intro j y c' e' hj hl
  rw [Qr listed i _ hil] at hl
  by_cases hji:j=i
  ·subst hji
   rw [hk] at hj;cases hj
   simp only [List.getElem?_set_self hxl]
   split
   ·rename_i hjp;exact (Q97 T I hr hk hjp).symm
   ·rfl
  ·have hl:Ls listed j:=by rcases hl with h|h;exact absurd h hji;exact h
   have hxy:x≠y:=fun he=>by subst he;exact hji (T.uniq j i _ _ _ _ _ hj hk)
   rw [List.getElem?_set_ne hxy];exact I.h2 j y c' e' hj hl
 ·intro j y c' e' hj hl
  rw [Qr listed i _ hil] at hl
  have hji:j≠i:=fun h=>hl (.inl h)
  have hxy:x≠y:=fun he=>by subst he;exact hji (T.uniq j i _ _ _ _ _ hj hk)
  obtain ⟨k1,k2⟩:=I.h3 j y c' e' hj (fun h=>hl (.inr h))
  exact ⟨by rw [List.getElem?_set_ne hxy];exact k1,by rw [Qs g _ (Ne.symm hxy)];exact k2⟩
 ·have E:=I.ext
  have hold: ∀b,b<w.heap.size->(w1.alloc (.cells C e fr)).heap[b]? =w.heap[b]?:=by
   intro b hb
   simp only [World.alloc,hF.heap,Array.getElem?_push]
   rw [if_neg (by omega)]
  have hsz:(w1.alloc (.cells C e fr)).heap.size=w.heap.size+1:=by simp [World.alloc,hF.heap]
  constructor
  ·exact E.sub.trans hsub
  ·intro j L hj hn
   by_cases hjx:j=x
   ·subst hjx;rw [Qx] at hj;cases hj
    exact ⟨by rw [hH0];exact hx0,.inl E.size⟩
   ·rw [Qs g _ hjx] at hj;exact E.new j L hj hn
  ·exact E.newm
  ·simpa using E.len
  ·intro j hj hl
   have hjx:x≠j:=by omega
   refine E.live j hj ?_
   unfold Live at hl⊢
   rw [List.getElem?_set_ne hjx] at hl;exact hl
  ·rw [hsz];have:=E.size;omega
  ·intro b hb hno
   rw [hold b (Nat.lt_of_lt_of_le hb E.size)]
   exact E.frame b hb hno
  ·exact hF.os.trans E.os
  ·exact hF.tape.trans E.tape
  ·exact hF.output.trans E.output
 ·rw [<-I.asz];cases o.dst<;>simp [Act.put]
 ·rw [<-I.adf];cases o.dst<;>rfl
theorem Qyw (T:DTr P ng ops r0 tm tr hp val kd anc) (I:Inv P ng ops r0 tm hp val kd g0 H0 w0 a0 listed p g H a w) {i:Nat} {pre:List Nat} {o:Oper} (hr:Rdy ops listed i o) (hk:kd i=.eff pre) {hm:Hp} (h3: ∀x,Qbv kd anc i x->hm.heap[x]? =some .gone)
  (h4: ∀x,¬Qbv kd anc i x->hm.heap[x]? =(hp i).heap[x]?):
  p<=i/\(∀j,p<=j->j<i-> ¬(kd j).isEff)/\(hp i).heap.length=(hp p).heap.length/\ ∀(x:Nat) (k:Blk),hm.heap[x]? =some k->k≠.gone->H[x]? =some k:=by
 have hi:=Qcm hr
 have hke:(kd i).isEff:=by rw [hk];trivial
 have hpi:p<=i:=by
  refine Classical.byContradiction fun hn=> ?_
  rcases I.pl with h0|⟨h0,h0',h0''⟩
  ·omega
  ·rcases Nat.lt_or_ge i (p-1) with h9|h9
   ·exact hr.no (Qgn T I.down (p-1) h0'' i (T.effs i (p-1) h9 hke h0'))
   ·have:i=p-1:=by omega
    rw [<-this] at h0'';exact hr.no h0''
 have hno: ∀j,p<=j->j<i-> ¬(kd j).isEff:=fun j h1 h2 he=>I.ph j h1 he (Qjv T I hr (T.effs j i h2 he hke))
 obtain ⟨l1,l2⟩:=T.stable i hpi (by omega) hno
 refine ⟨hpi,hno,l1,?_⟩
 intro x k hx hne
 have hM: ¬Qbv kd anc i x:=fun h=>by rw [h3 x h] at hx;cases hx;exact hne rfl
 rw [h4 x hM] at hx
 by_cases hown: ∃j c e,kd j=.fresh x c e
 ·obtain ⟨j,c,e,hj⟩:=hown
  have hji:j<i:=by
   rcases Nat.lt_or_ge j i with h9|h9
   ·exact h9
   ·rw [T.gone_until hj i h9] at hx;cases hx;exact absurd rfl hne
  have hanc:anc i j:=Classical.byContradiction fun h=>hM (.inl ⟨j,c,e,hji,hj,h⟩)
  rw [I.h2 j x c e hj (Qjv T I hr hanc)]
  split
  ·rename_i hjp
   rw [<-l2 x (fun k c' e' h1 _ hk'=>by have:=T.uniq k j _ _ _ _ _ hk' hj;omega) (fun k hk'=>T.apart k j x _ _ hk' hj)];exact hx
  ·rename_i hjp
   rw [T.filled hj hji (by omega) (fun k h1 h2=>hno k (by omega) h2)] at hx;exact hx
 ·have hnm: ∀j,kd j≠.mk x:=by
   intro j hj
   rcases Nat.lt_or_ge j i with h9|h9
   ·exact hM (.inr ⟨j,h9,hj⟩)
   ·rw [T.gone_untilM hj i h9] at hx;cases hx;exact hne rfl
  rw [I.h1 x (fun j c e h=>hown ⟨j,c,e,h⟩) hnm,<-l2 x (fun j c e _ _ h=>hown ⟨j,c,e,h⟩) hnm];exact hx
theorem Qbao (T:DTr P ng ops r0 tm tr hp val kd anc) (I:Inv P ng ops r0 tm hp val kd g0 H0 w0 a0 listed p g H a w) {i:Nat} {pre:List Nat} {o:Oper} (hr:Rdy ops listed i o) (hk:kd i=.eff pre) {hm hm':Hp} (hst:Step P ng ops.toList o (tr i) hm (val i) hm') (hl:hm.heap.length=(hp i).heap.length)
  (h3: ∀x,Qbv kd anc i x->hm.heap[x]? =some .gone) (h4: ∀x,¬Qbv kd anc i x->hm.heap[x]? =(hp i).heap[x]?) (h5:(hp (i+1)).heap.length=hm'.heap.length)
  (h6: ∀x,Qbv kd anc i x->(hp (i+1)).heap[x]? =(hp i).heap[x]?) (h7: ∀x,¬Qbv kd anc i x->(hp (i+1)).heap[x]? =hm'.heap[x]?)
  {g':Inj} {u:Value} {w':World} (hv:VRel g' (val i) u) (hH':HRel ng g' hm'.heap w') (hE:Ext g hm.heap w g' hm'.heap w') (hr0:HRel ng g0 H0 w0) (hH0:H0.length=r0) (ht0:(tm 0).len<=a0.tmps.size):
  ∃H',Inv P ng ops r0 tm hp val kd g0 H0 w0 a0 (listed.setIfInBounds i true) (i+1) g' H' (a.put o.dst u) w':=by
 have hi:=Qcm hr
 have hil:i<listed.size:=by rw [I.lsz];exact hi
 obtain ⟨hpi,hnoeff,hlen,hmH⟩:=Qyw T I hr hk h3 h4
 obtain ⟨l1,l2⟩:=T.stable i hpi (by omega) hnoeff
 have htouch:=hst.touch
 have hHm:HRel ng g hm.heap w:=I.rel.weaken (by rw [hl,hlen,I.hlen]) hmH
 obtain ⟨t1,t2⟩:=Qnb T I hr hE.sub hv ht0
 have hMgone: ∀j x,kd j=.mk x->hm.heap[x]? =some .gone:=by
  intro j x hj
  rcases Nat.lt_or_ge j i with h9|h9
  ·exact h3 x (.inr ⟨j,h9,hj⟩)
  ·by_cases hM:Qbv kd anc i x
   ·exact h3 x hM
   ·rw [h4 x hM];exact T.gone_untilM hj i h9
 have hex: ∃H':List Blk,H'.length=hm'.heap.length/\(∀x,(∀j c e,kd j≠.fresh x c e)->(∀j,kd j≠.mk x)->H'[x]? =hm'.heap[x]?)/\(∀j x,kd j=.mk x->H'[x]? =H[x]?)/\
   (∀j x c e,kd j=.fresh x c e->(Ls listed j->H'[x]? =if j<i+1 then (hp (i+1)).heap[x]? else some (.cells c e))/\(¬Ls listed j->H'[x]? =some .gone)):=by
  have hr1: ∀j x c e,kd j=.fresh x c e->x<hm'.heap.length:=by
   intro j x c e hj
   have:=T.gone_until hj 0 (Nat.zero_le _)
   have h9:=(List.getElem?_eq_some_iff.1 this).1
   have:=T.len (i+1) hi
   omega
  have hr2: ∀j x,kd j=.mk x->x<hm'.heap.length/\x<H.length:=by
   intro j x hj
   have:=T.gone_untilM hj 0 (Nat.zero_le _)
   have h9:=(List.getElem?_eq_some_iff.1 this).1
   have:=T.len (i+1) hi
   have:=T.len p I.pn
   rw [I.hlen]
   omega
  obtain ⟨H',k1,k2⟩:=Q26 hm'.heap.length (S:=fun x k=>((∀j c e,kd j≠.fresh x c e)->(∀j,kd j≠.mk x)->hm'.heap[x]? =some k)/\(∀j,kd j=.mk x->H[x]? =some k)/\
    ∀j c e,kd j=.fresh x c e->(Ls listed j->some k=if j<i+1 then (hp (i+1)).heap[x]? else some (.cells c e))/\(¬Ls listed j->k=.gone)) (by
   intro x hx
   by_cases hown: ∃j c e,kd j=.fresh x c e
   ·obtain ⟨j,c,e,hj⟩:=hown
    have huq: ∀j' c' e',kd j'=.fresh x c' e'->j'=j/\c'=c/\e'=e:=by
     intro j' c' e' h
     have:=T.uniq j' j _ _ _ _ _ h hj
     subst this
     rw [hj] at h;cases h
     exact ⟨rfl,rfl,rfl⟩
    by_cases hlj:Ls listed j
    ·have hx2:x<(hp (i+1)).heap.length:=by rw [h5];exact hx
     refine ⟨if j<i+1 then (hp (i+1)).heap[x] else .cells c e,fun h=>absurd hj (h j c e),fun j' h=>absurd hj (T.apart j' j x _ _ h),?_⟩
     intro j' c' e' h
     obtain ⟨rfl,rfl,rfl⟩:=huq j' c' e' h
     refine ⟨fun _=> ?_,fun h=>absurd hlj h⟩
     split
     ·simp
     ·rfl
    ·refine ⟨.gone,fun h=>absurd hj (h j c e),fun j' h=>absurd hj (T.apart j' j x _ _ h),?_⟩
     intro j' c' e' h
     obtain ⟨rfl,rfl,rfl⟩:=huq j' c' e' h
     exact ⟨fun h=>absurd h hlj,fun _=>rfl⟩
   ·by_cases hmk: ∃j,kd j=.mk x
    ·obtain ⟨j,hj⟩:=hmk
     have hxH:=(hr2 j x hj).2
     exact ⟨H[x],fun _ h=>absurd hj (h j),fun _ _=>by simp [hxH],fun j c e h=>absurd ⟨j,c,e,h⟩ hown⟩
    ·exact ⟨hm'.heap[x],fun _ _=>by simp,fun j h=>absurd ⟨j,h⟩ hmk,fun j c e h=>absurd ⟨j,c,e,h⟩ hown⟩)
  refine ⟨H',k1,?_,?_,?_⟩
  ·intro x hx hxm
   rcases Nat.lt_or_ge x hm'.heap.length with h9|h9
   ·obtain ⟨k,q1,q2,_⟩:=k2 x h9
    rw [q1,q2 hx hxm]
   ·rw [List.getElem?_eq_none h9,List.getElem?_eq_none (by rw [k1];exact h9)]
  ·intro j x hj
   obtain ⟨k,q1,_,q2,_⟩:=k2 x (hr2 j x hj).1
   rw [q1,q2 j hj]
  ·intro j x c e hj
   obtain ⟨k,q1,_,_,q2⟩:=k2 x (hr1 j x c e hj)
   obtain ⟨q3,q4⟩:=q2 j c e hj
   exact ⟨fun h=>by rw [q1,q3 h],fun h=>by rw [q1,q4 h]⟩
 obtain ⟨H',hH'l,hH'1,hH'3,hH'2⟩:=hex
 have hr1: ∀j x c e,kd j=.fresh x c e->x<hm.heap.length:=by
  intro j x c e hj
  have:=(List.getElem?_eq_some_iff.1 (T.gone_until hj 0 (Nat.zero_le _))).1
  have:=T.len i (by omega)
  omega
 have hsplit: ∀(x:Nat) (k:Blk),H'[x]? =some k->k≠.gone->(hm'.heap[x]? =some k)\/(H[x]? =some k/\hm.heap[x]? =some .gone):=by
  intro x k hx hne
  by_cases hown: ∃j c e,kd j=.fresh x c e
  ·obtain ⟨j,c,e,hj⟩:=hown
   by_cases hlj:Ls listed j
   ·have h8:=(hH'2 j x c e hj).1 hlj
    rw [h8] at hx
    have hHx:=I.h2 j x c e hj hlj
    split at hx
    ·rename_i hji
     have hji:j<i:=by
      rcases Nat.lt_or_ge j i with h9|h9
      ·exact h9
      ·have:j=i:=by omega
       subst this;rw [hk] at hj;cases hj
     by_cases hM:Qbv kd anc i x
     ·right
      rw [h6 x hM] at hx
      have:H[x]? =some k:=by
       rw [hHx]
       split
       ·rw [<-l2 x (fun k c' e' h1 _ hk'=>by have:=T.uniq k j _ _ _ _ _ hk' hj;omega) (fun k hk'=>T.apart k j x _ _ hk' hj)];exact hx
       ·rw [T.filled hj hji (by omega) (fun k h1 h2=>hnoeff k (by omega) h2)] at hx;exact hx
      exact ⟨this,h3 x hM⟩
     ·left;rw [<-h7 x hM];exact hx
    ·rename_i hji
     right
     have hij:i<=j:=by omega
     have hjp: ¬j<p:=by omega
     rw [if_neg hjp] at hHx
     have hMn: ¬Qbv kd anc i x:=by
      rintro (⟨j',c',e',h1,h2,_⟩|⟨j',h1,h2⟩)
      ·have:=T.uniq j' j _ _ _ _ _ h2 hj
       omega
      ·exact T.apart j' j x _ _ h2 hj
     exact ⟨by rw [hHx];exact hx,by rw [h4 x hMn];exact T.gone_until hj i hij⟩
   ·rw [(hH'2 j x c e hj).2 hlj] at hx;cases hx;exact absurd rfl hne
  ·by_cases hmk: ∃j,kd j=.mk x
   ·obtain ⟨j,hj⟩:=hmk
    right
    rw [hH'3 j x hj] at hx
    exact ⟨hx,hMgone j x hj⟩
   ·left;rw [<-hH'1 x (fun j c e h=>hown ⟨j,c,e,h⟩) (fun j h=>hmk ⟨j,h⟩)];exact hx
 have locOf: ∀x L,g' x=some L->hm.heap[x]? =some .gone-> ∃N,g x=some N:=by
  intro x L hx hg
  cases hgx:g x with
  |some N=>exact ⟨N,rfl⟩
  |none=>
   have h1:=(hE.new x L hx hgx).1
   have h2:=(List.getElem?_eq_some_iff.1 hg).1
   omega
 have hliveM: ∀x,Live hm.heap x->Live H x:=fun x ⟨k,hk,hne⟩=>⟨k,hmH x k hk hne,hne⟩
 have hfrB: ∀(x:Nat) (L:Loc) (k:Blk),H[x]? =some k->k≠.gone->hm.heap[x]? =some .gone->g x=some L->w'.heap[L.blk]? =w.heap[L.blk]?:=by
  intro x L k hx hne hg hL
  refine hE.frame L.blk (I.rel.dom x L hL).2 ?_
  intro y M hM hly he
  have:=I.rel.inj y x M L hM hL he (hliveM y hly) ⟨k,hx,hne⟩
  subst this
  exact Qgs hg hly
 have hrel':HRel ng g' H' w':=by
  refine ⟨fun x L hx=>by rw [hH'l];exact hH'.dom x L hx,?_,?_,hH'.glob,hH'.sig,?_⟩
  rotate_left 2
  ·constructor
   ·intro i X hi hl
    refine ⟨(hH'.frz.row i X hi hl).1,?_⟩
    rintro x L hx ⟨k,hk,hne⟩
    rcases hsplit x k hk hne with ha|⟨hb1,hb2⟩
    ·exact (hH'.frz.row i X hi hl).2 x L hx ⟨k,ha,hne⟩
    ·obtain ⟨N,hN⟩:=locOf x L hx hb2
     have:=hE.sub x N hN
     rw [this] at hx;cases hx
     exact (I.rel.frz.row i X (by rw [<-hE.sub.sig];exact hi) hl).2 x _ hN ⟨k,hb1,hne⟩
   ·intro i X hi
    refine ⟨by rw [hH'l];exact (hH'.frz.mp i X hi).1,(hH'.frz.mp i X hi).2.1,?_⟩
    rintro x L hx ⟨k,hk,hne⟩ he
    rcases hsplit x k hk hne with ha|⟨hb1,hb2⟩
    ·exact (hH'.frz.mp i X hi).2.2 x L hx ⟨k,ha,hne⟩ he
    ·obtain ⟨N,hN⟩:=locOf x L hx hb2
     have:=hE.sub x N hN
     rw [this] at hx;cases hx
     cases hm:g.mp i with
     |some Y=>
      have:=hE.sub.mp i Y hm
      rw [this] at hi;cases hi
      exact (I.rel.frz.mp i _ hm).2.2 x _ hN ⟨k,hb1,hne⟩ he
     |none=>
      obtain ⟨_,hb⟩:=hE.newm i X hi hm
      rcases hb with hb|⟨j,M,hj,hM,lj⟩
      ·have:=(I.rel.dom x _ hN).2;omega
      ·have:=I.rel.inj x j _ M hN hj (he.trans hM.symm) ⟨k,hb1,hne⟩ (hliveM j lj)
       subst this
       exact Qgs hb2 lj
   ·exact hH'.frz.top
  ·intro x y L M hx hy hb ⟨k,hkx,hnx⟩ ⟨k',hky,hny⟩
   have mixed: ∀(x y:Nat) (L M:Loc) (k k':Blk),g' x=some L->g' y=some M->L.blk=M.blk->hm'.heap[x]? =some k->k≠.gone->H[y]? =some k'->k'≠.gone->hm.heap[y]? =some .gone->(∃N,g y=some N)->False:=by
    intro x y L M k k' hx hy hb hkx hnx hky hny hgy ⟨N,hN⟩
    have:M=N:=by have:=hE.sub y N hN;rw [this] at hy;exact (Option.some.inj hy).symm
    subst this
    cases hgx:g x with
    |some L0=>
     have:L=L0:=by have:=hE.sub x L0 hgx;rw [this] at hx;exact (Option.some.inj hx).symm
     subst this
     have hlx:=hE.live x (hHm.dom x _ hgx).1 ⟨k,hkx,hnx⟩
     have:=I.rel.inj x y L M hgx hN hb (hliveM x hlx) ⟨k',hky,hny⟩
     subst this
     exact Qgs hgy hlx
    |none=>
     obtain ⟨_,hnew⟩:=hE.new x L hx hgx
     rcases hnew with hnew|⟨z,N',hz,hzb,hzl⟩
     ·have:=(I.rel.dom y M hN).2;omega
     ·have:=I.rel.inj z y N' M hz hN (hzb.trans hb) (hliveM z hzl) ⟨k',hky,hny⟩
      subst this
      exact Qgs hgy hzl
   rcases hsplit x k hkx hnx with ha|⟨hb1,hb2⟩
   ·rcases hsplit y k' hky hny with ha'|⟨hb1',hb2'⟩
    ·exact hH'.inj x y L M hx hy hb ⟨k,ha,hnx⟩ ⟨k',ha',hny⟩
    ·exact (mixed x y L M k k' hx hy hb ha hnx hb1' hny hb2' (locOf y M hy hb2')).elim
   ·rcases hsplit y k' hky hny with ha'|⟨hb1',hb2'⟩
    ·exact (mixed y x M L k' k hy hx hb.symm ha' hny hb1 hnx hb2 (locOf x L hx hb2)).elim
    ·obtain ⟨N,hN⟩:=locOf x L hx hb2
     obtain ⟨N',hN'⟩:=locOf y M hy hb2'
     have e1:L=N:=by have:=hE.sub x N hN;rw [this] at hx;exact (Option.some.inj hx).symm
     have e2:M=N':=by have:=hE.sub y N' hN';rw [this] at hy;exact (Option.some.inj hy).symm
     subst e1;subst e2
     exact I.rel.inj x y L M hN hN' hb ⟨k,hb1,hnx⟩ ⟨k',hb1',hny⟩
  ·intro x k hx hne
   rcases hsplit x k hx hne with ha|⟨hb1,hb2⟩
   ·exact hH'.blk0 x k ha hne
   ·rcases I.rel.blk0 x k hb1 hne with hz|⟨L,hL,hB⟩
    ·exact .inl (hz.mono hE.sub.sig)
    exact .inr ⟨L,hE.sub x L hL,(hB.of_same (hfrB x L k hb1 hne hb2 hL)).mono hE.sub⟩
 refine ⟨H',by simp [I.lsz],Qkx I hr,hi,?_,?_,by rw [hH'l,h5],?_,?_,?_,?_,hrel',?_,?_,?_,t1,t2⟩
 ·exact .inr ⟨by omega,by simp only [Nat.add_sub_cancel,hk];trivial,(Qr listed i _ hil).2 (.inl (by omega))⟩
 ·intro j hj he hlj
  rw [Qr listed i _ hil] at hlj
  rcases hlj with rfl|hlj
  ·omega
  ·exact I.ph j (by omega) he hlj
 ·intro x hx hxm
  have hMn: ¬Qbv kd anc i x:=by
   rintro (⟨j,c,e,_,h,_⟩|⟨j,_,h⟩)
   ·exact hx j c e h
   ·exact hxm j h
  rw [hH'1 x hx hxm,h7 x hMn]
 ·intro j x hj
  rw [hH'3 j x hj,Qiz hil (by rw [hk];intro d k v h;cases h),Qr listed i _ hil]
  have hji:j≠i:=fun h=>by rw [h,hk] at hj;cases hj
  obtain ⟨k1,k2⟩:=I.h4 j x hj
  refine ⟨fun h=>k1 (h.resolve_left hji),fun h=> ?_⟩
  obtain ⟨q1,q2⟩:=k2 (fun h'=>h (.inr h'))
  refine ⟨q1,?_⟩
  cases hg:g' x with
  |none=>rfl
  |some L=>
   have:=(hE.new x L hg q2).1
   have:=(List.getElem?_eq_some_iff.1 (hMgone j x hj)).1
   omega
 ·intro j x c e hj hlj
  rw [Qr listed i _ hil] at hlj
  have hji:j≠i:=fun h=>by rw [h,hk] at hj;cases hj
  have hlj:Ls listed j:=by rcases hlj with h|h;exact absurd h hji;exact h
  exact (hH'2 j x c e hj).1 hlj
 ·intro j x c e hj hlj
  rw [Qr listed i _ hil] at hlj
  have hlj: ¬Ls listed j:=fun h=>hlj (.inr h)
  refine ⟨(hH'2 j x c e hj).2 hlj,?_⟩
  cases hg:g' x with
  |none=>rfl
  |some L=>
   have:=(hE.new x L hg (I.h3 j x c e hj hlj).2).1
   have:=hr1 j x c e hj
   omega
 ·have E1:Ext g0 H0 w0 g hm.heap w:=I.ext.weaken (by rw [hl];have:=I.ext.len;rw [I.hlen] at this;omega) (fun x _ h=>hliveM x h)
  refine (E1.trans hr0 hE).weaken (by rw [hH'l];have:=E1.len;have:=htouch.len;omega) ?_
  intro x hx ⟨k,hkx,hne⟩
  have hno: ∀j c e,kd j≠.fresh x c e:=by
   intro j c e hj
   have hjn:j<ops.size:=T.lt (by rw [hj];simp)
   have hsj:=T.step j _ (by simp [hjn]:ops[j]? =some ops[j])
   rw [hj] at hsj
   have:=hsj.2.2.1
   omega
  have hnm: ∀j,kd j≠.mk x:=by
   intro j hj
   have hjn:j<ops.size:=T.lt (by rw [hj];simp)
   have hsj:=T.step j _ (by simp [hjn]:ops[j]? =some ops[j])
   rw [hj] at hsj
   have:=hsj.2.2.2.1
   omega
  exact ⟨k,by rw [<-hH'1 x hno hnm];exact hkx,hne⟩
 ·rw [<-I.asz];cases o.dst<;>simp [Act.put]
 ·rw [<-I.adf];cases o.dst<;>rfl
theorem Qbar (T:DTr P ng ops r0 tm tr hp val kd anc) (I:Inv P ng ops r0 tm hp val kd g0 H0 w0 a0 listed p g H a w) {i x:Nat} {o:Oper} (hr:Rdy ops listed i o) (hk:kd i=.mk x) (hval:val i=.map x)
  (hH0:H0.length=r0) (ht0:(tm 0).len<=a0.tmps.size):
  ∃g' H',Inv P ng ops r0 tm hp val kd g0 H0 w0 a0 (listed.setIfInBounds i true) p g' H' (a.put o.dst (.map (some w.heap.size))) (w.alloc (.map #[] 0)):=by
 have hil:i<listed.size:=by rw [I.lsz];exact Qcm hr
 obtain ⟨hHx,hgx⟩:=(I.h4 i x hk).2 hr.no
 have hs:=T.step i o hr.op
 rw [hk] at hs
 obtain ⟨_,_,_,hx0,hx1,_⟩:=hs
 have hxl:x<H.length:=(List.getElem?_eq_some_iff.1 hHx).1
 have hng:ng.n<=x:=by
  rcases Nat.lt_or_ge x ng.n with h9|h9
  ·obtain ⟨L,hL,_⟩:=I.rel.glob x h9
   rw [hgx] at hL;cases hL
  ·exact h9
 have hal:=HRel.allocK I.rel (w0:=w) (H':=H.set x (.map [])) (k:=.map []) (O:=.map #[] 0) (n:=0) hgx hng rfl rfl rfl rfl (by simp [hxl]) (fun j hj=>List.getElem?_set_ne (Ne.symm hj)) (by simp)
  (.inr (Qgs hHx)) (fun hnew=>⟨_,_,[],hnew,by simp,.nil,by simp,by simp⟩)
 have hsub:=Qfd (⟨w.heap.size,0,0⟩:Loc) hgx
 have hv:VRel (upd g x ⟨w.heap.size,0,0⟩) (val i) (.map (some w.heap.size)):=by rw [hval];exact .map _ _ (Qx _ _ _)
 obtain ⟨t1,t2⟩:=Qnb T I hr hsub hv ht0
 have hni: ∀y d k v,kd i≠.ins y d k v:=by rw [hk];intro y d k v h;cases h
 refine ⟨upd g x ⟨w.heap.size,0,0⟩,H.set x (.map []),by simp [I.lsz],Qkx I hr,I.pn,?_,?_,by simp [I.hlen],?_,?_,?_,?_,hal.1,?_,?_,?_,t1,t2⟩
 ·rcases I.pl with h|⟨h,h',h''⟩
  ·exact .inl h
  ·exact .inr ⟨h,h',(Qr listed i _ hil).2 (.inr h'')⟩
 ·intro j hj he hl
  rw [Qr listed i _ hil] at hl
  rcases hl with rfl|hl
  ·rw [hk] at he;exact he
  ·exact I.ph j hj he hl
 ·intro y hy hym
  have hxy:x≠y:=fun he=>hym i (by rw [hk,he])
  rw [List.getElem?_set_ne hxy];exact I.h1 y hy hym
 ·intro j y hj
  rw [Qiz hil (hni y),Qr listed i _ hil]
  by_cases hxy:x=y
  ·subst hxy
   have hji:=T.uniqM j i x hj hk
   subst hji
   refine ⟨fun _=>⟨[],by simp [hxl],?_⟩,fun h=>absurd (.inl rfl) h⟩
   have:ents kd listed x ops.size=[]:=by
    rw [List.eq_nil_iff_forall_not_mem]
    intro q hq
    obtain ⟨i',d,h1,h2,h3⟩:=Qiy _ hq
    obtain ⟨j',h4,h5⟩:=T.insM i' x d _ _ h3
    have:=T.uniqM j' j x h4 hj
    subst this
    exact hr.no (Qgn T I.down i' h2 _ h5)
   rw [this]
  ·rw [List.getElem?_set_ne hxy,Qs g _ (Ne.symm hxy)]
   have hji:j≠i:=fun h=>by rw [h,hk] at hj;cases hj;exact hxy rfl
   obtain ⟨k1,k2⟩:=I.h4 j y hj
   exact ⟨fun h=>k1 (h.resolve_left hji),fun h=>k2 (fun h'=>h (.inr h'))⟩
 ·intro j y c' e' hj hl
  rw [Qr listed i _ hil] at hl
  have hji:j≠i:=fun h=>by rw [h,hk] at hj;cases hj
  have hxy:x≠y:=fun he=>by subst he;exact T.apart i j x _ _ hk hj
  rw [List.getElem?_set_ne hxy];exact I.h2 j y c' e' hj (hl.resolve_left hji)
 ·intro j y c' e' hj hl
  rw [Qr listed i _ hil] at hl
  have hxy:x≠y:=fun he=>by subst he;exact T.apart i j x _ _ hk hj
  obtain ⟨k1,k2⟩:=I.h3 j y c' e' hj (fun h=>hl (.inr h))
  exact ⟨by rw [List.getElem?_set_ne hxy];exact k1,by rw [Qs g _ (Ne.symm hxy)];exact k2⟩
 ·have E:=I.ext
  have hold: ∀b,b<w.heap.size->(w.alloc (.map #[] 0)).heap[b]? =w.heap[b]?:=by
   intro b hb
   exact heap_alloc_old w _ hb
  have hsz:(w.alloc (.map #[] 0)).heap.size=w.heap.size+1:=Array.size_push ..
  constructor
  ·exact E.sub.trans hsub
  ·intro j L hj hn
   by_cases hjx:j=x
   ·subst hjx;rw [Qx] at hj;cases hj
    exact ⟨by rw [hH0];exact hx0,.inl E.size⟩
   ·rw [Qs g _ hjx] at hj;exact E.new j L hj hn
  ·exact E.newm
  ·simpa using E.len
  ·intro j hj hl
   have hjx:x≠j:=by omega
   refine E.live j hj ?_
   unfold Live at hl⊢
   rw [List.getElem?_set_ne hjx] at hl;exact hl
  ·rw [hsz];have:=E.size;omega
  ·intro b hb hno
   rw [hold b (Nat.lt_of_lt_of_le hb E.size)]
   exact E.frame b hb hno
  ·exact E.os
  ·exact E.tape
  ·exact E.output
 ·rw [<-I.asz];cases o.dst<;>simp [Act.put]
 ·rw [<-I.adf];cases o.dst<;>rfl
theorem Qbak (T:DTr P ng ops r0 tm tr hp val kd anc) (I:Inv P ng ops r0 tm hp val kd g0 H0 w0 a0 listed p g H a w) {i x:Nat} {d:TypeDesc} {k v:AVal} {o:Oper} (hr:Rdy ops listed i o) (hk:kd i=.ins x d k v):
  ∃l,H[x]? =some (.map l)/\l.Perm (ents kd listed x ops.size)/\Step P ng ops.toList o (tr i) ⟨H,[]⟩ Qb4 ⟨H.set x (.map (l++[(k,v)])),[x]⟩:=by
 obtain ⟨j,hj,ha⟩:=T.insM i x d k v hk
 obtain ⟨l,h1,h2⟩:=(I.h4 j x hj).1 (Qjv T I hr ha)
 refine ⟨l,h1,h2,?_⟩
 have hs:=T.step i o hr.op
 rw [hk] at hs
 obtain ⟨hw,⟨ty,m,k',v',kt,vt,u,e1,e2,e3,e4,e5,e6,e7⟩,_,_⟩:=hs
 refine .eff _ _ hw ?_
 have hf:Qex d k l=some none:=Qzs fun q hq=>by
  obtain ⟨i',d',q1,q2,q3⟩:=Qiy _ (h2.mem_iff.1 hq)
  exact T.keys i i' x d k v d' q.1 q.2 (fun e=>hr.no (e▸q2)) hk q3
 rw [e1]
 simp only [effA,e4,e5,e6,Qho,e2,e3,e7,h1,hf]
theorem Qbaq (T:DTr P ng ops r0 tm tr hp val kd anc) (I:Inv P ng ops r0 tm hp val kd g0 H0 w0 a0 listed p g H a w) {i x:Nat} {d:TypeDesc} {k v:AVal} {o:Oper} (hr:Rdy ops listed i o) (hk:kd i=.ins x d k v)
  {l:List (AVal×AVal)} (hl:H[x]? =some (.map l)) (hpm:l.Perm (ents kd listed x ops.size))
  {g':Inj} {u:Value} {w':World} (hv:VRel g' (val i) u) (hH':HRel ng g' (H.set x (.map (l++[(k,v)]))) w') (hE:Ext g H w g' (H.set x (.map (l++[(k,v)]))) w') (hr0:HRel ng g0 H0 w0) (ht0:(tm 0).len<=a0.tmps.size):
  Inv P ng ops r0 tm hp val kd g0 H0 w0 a0 (listed.setIfInBounds i true) p g' (H.set x (.map (l++[(k,v)]))) (a.put o.dst u) w':=by
 have hil:i<listed.size:=by rw [I.lsz];exact Qcm hr
 have hin:i<ops.size:=Qcm hr
 have hxl:x<H.length:=(List.getElem?_eq_some_iff.1 hl).1
 obtain ⟨j0,hj0,ha0⟩:=T.insM i x d k v hk
 have hlj0:=Qjv T I hr ha0
 obtain ⟨t1,t2⟩:=Qnb T I hr hE.sub hv ht0
 refine ⟨by simp [I.lsz],Qkx I hr,I.pn,?_,?_,by simp [I.hlen],?_,?_,?_,?_,hH',Ext.trans hr0 I.ext hE,?_,?_,t1,t2⟩
 ·rcases I.pl with h|⟨h,h',h''⟩
  ·exact .inl h
  ·exact .inr ⟨h,h',(Qr listed i _ hil).2 (.inr h'')⟩
 ·intro j hj he hl
  rw [Qr listed i _ hil] at hl
  rcases hl with rfl|hl
  ·rw [hk] at he;exact he
  ·exact I.ph j hj he hl
 ·intro y hy hym
  have hxy:x≠y:=fun he=>hym j0 (by rw [hj0,he])
  rw [List.getElem?_set_ne hxy];exact I.h1 y hy hym
 ·intro j y hj
  rw [Qr listed i _ hil]
  by_cases hxy:x=y
  ·subst hxy
   have hjj:=T.uniqM j j0 x hj hj0
   subst hjj
   exact ⟨fun _=>⟨l++[(k,v)],by simp [hxl],(hpm.append_right _).trans (Qzd hil hk hr.no _ hin)⟩,fun h=>absurd (.inr hlj0) h⟩
  ·rw [List.getElem?_set_ne hxy,Qiz hil (by rw [hk];intro d k v h;cases h;exact hxy rfl)]
   have hji:j≠i:=fun h=>by rw [h,hk] at hj;cases hj
   obtain ⟨k1,k2⟩:=I.h4 j y hj
   refine ⟨fun h=>k1 (h.resolve_left hji),fun h=> ?_⟩
   obtain ⟨q1,q2⟩:=k2 (fun h'=>h (.inr h'))
   refine ⟨q1,?_⟩
   cases hg:g' y with
   |none=>rfl
   |some L=>
    have:=(hE.new y L hg q2).1
    have h9:=(List.getElem?_eq_some_iff.1 q1).1
    omega
 ·intro j y c' e' hj hl
  rw [Qr listed i _ hil] at hl
  have hji:j≠i:=fun h=>by rw [h,hk] at hj;cases hj
  have hxy:x≠y:=fun he=>by subst he;exact T.apart j0 j x _ _ hj0 hj
  rw [List.getElem?_set_ne hxy];exact I.h2 j y c' e' hj (hl.resolve_left hji)
 ·intro j y c' e' hj hl
  rw [Qr listed i _ hil] at hl
  have hxy:x≠y:=fun he=>by subst he;exact T.apart j0 j x _ _ hj0 hj
  obtain ⟨k1,k2⟩:=I.h3 j y c' e' hj (fun h=>hl (.inr h))
  refine ⟨by rw [List.getElem?_set_ne hxy];exact k1,?_⟩
  cases hg:g' y with
  |none=>rfl
  |some L=>
   have:=(hE.new y L hg k2).1
   have h9:=(List.getElem?_eq_some_iff.1 k1).1
   omega
 ·rw [<-I.asz];cases o.dst<;>simp [Act.put]
 ·rw [<-I.adf];cases o.dst<;>rfl
theorem Q8x (T:DTr P ng ops r0 tm tr hp val kd anc) (hall: ∀i,i<ops.size->Ls listed i) {j x:Nat} (hj:kd j=.mk x): ∀i,j+1<=i->(i<=ops.size->(hp i).heap[x]? =some (.map (ents kd listed x i))):=by
 have hjn:j<ops.size:=T.lt (by rw [hj];simp)
 refine Qpa ?_ ?_
 ·intro _
  have hs:=T.step j _ (by simp [hjn]:ops[j]? =some ops[j])
  have hg:=T.gone_untilM hj j (Nat.le_refl _)
  have hxl:=(List.getElem?_eq_some_iff.1 hg).1
  rw [hj] at hs
  rw [hs.2.2.2.2.2]
  have:ents kd listed x (j+1)=[]:=by
   rw [List.eq_nil_iff_forall_not_mem]
   intro q hq
   obtain ⟨i',d,h1,h2,h3⟩:=Qiy _ hq
   obtain ⟨j',h4,h5⟩:=T.insM i' x d _ _ h3
   have:=T.uniqM j' j x h4 hj
   subst this
   have:=T.anc_lt i' _ h5
   omega
  rw [this];simp [hxl]
 ·intro i hji ih hi
  have ih:=ih (by omega)
  have ho:ops[i]? =some ops[i]:=by simp [show i<ops.size by omega]
  have hs:=T.step i _ ho
  simp only [ents]
  cases hk:kd i with
  |lite=>rw [hk] at hs;rw [hs.1];exact ih
  |load b=>rw [hk] at hs;rw [hs.1];exact ih
  |fresh y c' e'=>
   rw [hk] at hs;rw [hs.2.2.2.2]
   have hxy:y≠x:=fun he=>by subst he;exact T.apart j i y _ _ hj hk
   simp only [List.getElem?_set_ne hxy];exact ih
  |mk y=>
   rw [hk] at hs;rw [hs.2.2.2.2.2]
   have hxy:y≠x:=fun he=>by subst he;have:=T.uniqM i j y hk hj;omega
   simp only [List.getElem?_set_ne hxy];exact ih
  |ins y d k v=>
   have hxl:=(List.getElem?_eq_some_iff.1 ih).1
   rw [hk] at hs;obtain ⟨_,_,_,l,hl,h⟩:=hs;rw [h]
   by_cases hxy:y=x
   ·subst hxy
    rw [ih] at hl;cases hl
    have:listed.getD i false=true:=hall i (by omega)
    simp only [this,and_self,if_true]
    simp [hxl]
   ·simp only [List.getElem?_set_ne hxy,hxy,false_and,if_false];exact ih
  |eff pre=>
   rw [hk] at hs
   obtain ⟨hm,hm',h1,h2,h3,h4,h5,h6,h7,h8⟩:=hs
   rw [h6 x (.inr ⟨j,by omega,hj⟩)];exact ih
theorem Qban (T:DTr P ng ops r0 tm tr hp val kd anc) (I:Inv P ng ops r0 tm hp val kd g0 H0 w0 a0 listed p g H a w) (hall: ∀i,i<ops.size->Ls listed i):
  HRel ng g (hp ops.size).heap w/\Ext g0 H0 w0 g (hp ops.size).heap w/\TRel g (tm ops.size) a\/ ¬(tm 0).len<=a0.tmps.size:=by
 by_cases ht0:(tm 0).len<=a0.tmps.size
 ·left
  have hno: ∀j,p<=j->j<ops.size-> ¬(kd j).isEff:=fun j h1 h2 he=>I.ph j h1 he (hall j h2)
  obtain ⟨l1,l2⟩:=T.stable ops.size I.pn (Nat.le_refl _) hno
  have hsame: ∀x,(∀j,kd j≠.mk x)->(hp ops.size).heap[x]? =H[x]?:=by
   intro x hxm
   by_cases hown: ∃j c e,kd j=.fresh x c e
   ·obtain ⟨j,c,e,hj⟩:=hown
    have hjn:j<ops.size:=T.lt (by rw [hj];simp)
    rw [I.h2 j x c e hj (hall j hjn)]
    split
    ·exact (l2 x (fun k c' e' h1 _ hk'=>by have:=T.uniq k j _ _ _ _ _ hk' hj;omega) hxm)
    ·exact (T.filled hj hjn (Nat.le_refl _) (fun k h1 h2=>hno k (by omega) h2))
   ·rw [I.h1 x (fun j c e h=>hown ⟨j,c,e,h⟩) hxm]
    exact (l2 x (fun j c e _ _ h=>hown ⟨j,c,e,h⟩) hxm)
  have hmap: ∀j x,kd j=.mk x-> ∃l l',H[x]? =some (.map l)/\(hp ops.size).heap[x]? =some (.map l')/\l.Perm l':=by
   intro j x hj
   have hjn:j<ops.size:=T.lt (by rw [hj];simp)
   obtain ⟨l,h1,h2⟩:=(I.h4 j x hj).1 (hall j hjn)
   exact ⟨l,_,h1,Q8x T hall hj ops.size hjn (Nat.le_refl _),h2⟩
  have hlen:H.length=(hp ops.size).heap.length:=by rw [I.hlen,l1]
  have hback: ∀(x:Nat) (k':Blk),(hp ops.size).heap[x]? =some k'->k'≠.gone-> ∃k,H[x]? =some k/\k≠.gone/\(∀L,BRel g w k L->BRel g w k' L)/\(Qb6 g k->Qb6 g k'):=by
   intro x k' hk' hne
   by_cases hmk: ∃j,kd j=.mk x
   ·obtain ⟨j,hj⟩:=hmk
    obtain ⟨l,l',h1,h2,h3⟩:=hmap j x hj
    rw [h2] at hk';cases hk'
    exact ⟨_,h1,by simp,fun L h=>h.perm h3,fun h=>by obtain ⟨_,_,_,_,h,_⟩:=h;cases h⟩
   ·rw [hsame x (fun j h=>hmk ⟨j,h⟩)] at hk'
    exact ⟨k',hk',hne,fun _ h=>h,fun h=>h⟩
  refine ⟨I.rel.relax (Nat.le_of_eq hlen) hback,I.ext.relax (Nat.le_of_eq hlen) fun j ⟨k',hk',hne⟩=>let ⟨k,h1,h2,_⟩:=hback j k' hk' hne;⟨k,h1,h2⟩,?_⟩
  obtain ⟨k1,k2,k3⟩:=Qxc T ops.size (Nat.le_refl _)
  refine ⟨by rw [k1,I.asz];exact ht0,?_⟩
  intro d v hd
  by_cases hw: ∃(j:Nat) (y:Oper),ops[j]? =some y/\y.dst=some d
  ·obtain ⟨j,y,hy,hyd⟩:=hw
   have hjn:j<ops.size:=(Array.getElem?_eq_some_iff.1 hy).1
   have hlt:d<(tm 0).len:=by rw [<-k1];exact Tm.get_lt hd
   rw [k3 j y d v hjn hy hyd hd]
   exact I.t1 j y d hy hyd (hall j hjn) hlt
  ·exact I.t2 d v (fun j y hy _ hyd=>hw ⟨j,y,hy,hyd⟩) (k2 d v (fun j y _ hy hyd=>hw ⟨j,y,hy,hyd⟩) hd)
 ·exact .inr ht0
end
section
variable {P : Program} {ng : Cx} {ops : Array Oper} {r0 : Nat} {tm tr : Nat -> Tm} {hp : Nat -> Hp} {val : Nat -> AVal} {kd : Nat -> DK} {anc : Nat -> Nat -> Prop}
variable {g0 : Inj} {H0 : List Blk} {w0 : World} {a0 : Act}
def left (n:Nat) (listed:Array Bool):Nat:=(List.range n).countP fun i=> !listed.getD i false
theorem Qt0 {n i:Nat} {listed:Array Bool} (hi:i<n) (hl:listed.size=n) (hn: ¬Ls listed i):left n (listed.setIfInBounds i true)+1=left n listed:=by
 unfold left
 have key: ∀(l:List Nat),l.Nodup->(i∈l->(l.countP fun j=> !(listed.setIfInBounds i true).getD j false)+1=l.countP fun j=> !listed.getD j false)/\
   (i∉l->(l.countP fun j=> !(listed.setIfInBounds i true).getD j false)=l.countP fun j=> !listed.getD j false):=by
  intro l
  induction l with
  |nil=>intro _;exact ⟨(fun h=>by cases h),(fun _=>rfl)⟩
  |cons j l ih=>
   intro hnd
   obtain ⟨h1,h2⟩:=List.nodup_cons.1 hnd
   obtain ⟨ih1,ih2⟩:=ih h2
   have hil:i<listed.size:=by omega
   constructor
   ·intro hm
    by_cases hji:j=i
    ·subst hji
     have e:=ih2 h1
     simp only [List.countP_cons,e]
     have:listed.getD j false=false:=by simpa [Ls] using hn
     simp [hil] at this⊢
     simp [this]
    ·have hm':i∈l:=by rcases List.mem_cons.1 hm with h|h;exact absurd h.symm hji;exact h
     have e:=ih1 hm'
     simp only [List.countP_cons]
     have:(listed.setIfInBounds i true).getD j false=listed.getD j false:=by
      simp [Array.getElem?_setIfInBounds_ne (Ne.symm hji)]
     rw [this];omega
   ·intro hm
    have hji:j≠i:=fun h=>hm (by simp [h])
    have e:=ih2 (fun h=>hm (List.mem_cons_of_mem _ h))
    simp only [List.countP_cons,e]
    have:(listed.setIfInBounds i true).getD j false=listed.getD j false:=by
     simp [Array.getElem?_setIfInBounds_ne (Ne.symm hji)]
    rw [this]
 exact (key (List.range n) List.nodup_range).1 (List.mem_range.2 hi)
theorem Q8z {r:Option Nat} (T:DTr P ng ops r0 tm tr hp val kd anc) (hr0:HRel ng g0 H0 w0) (hH0:H0.length=r0) (ht0:(tm 0).len<=a0.tmps.size) {Q:Exit->Act->World->Prop}
  (hQ: ∀g a w,HRel ng g (hp ops.size).heap w->Ext g0 H0 w0 g (hp ops.size).heap w->TRel g (tm ops.size) a->a.tmps.size=a0.tmps.size->a.defers=a0.defers->Q .normal a w):
  ∀(fuel:Nat) (listed:Array Bool) (p:Nat) (g:Inj) (H:List Blk) (a:Act) (w:World),Inv P ng ops r0 tm hp val kd g0 H0 w0 a0 listed p g H a w->left ops.size listed=fuel->
  wpAnyIn (FR r) 0 P .any ops Q fuel listed a w:=by
 have fin: ∀(listed:Array Bool) (p:Nat) (g:Inj) (H:List Blk) (a:Act) (w:World),Inv P ng ops r0 tm hp val kd g0 H0 w0 a0 listed p g H a w->(∀i,i<ops.size->Ls listed i)->Q .normal a w:=by
  intro listed p g H a w I hall
  rcases Qban T I hall with ⟨h1,h1',h2⟩|h
  ·exact hQ g a w h1 h1' h2 I.asz I.adf
  ·exact absurd ht0 h
 intro fuel
 induction fuel with
 |zero=>
  intro listed p g H a w I hf
  have hall: ∀i,i<ops.size->Ls listed i:=by
   intro i hi
   unfold left at hf
   rw [List.countP_eq_zero] at hf
   have:=hf i (List.mem_range.2 hi)
   simpa [Ls] using this
  refine ⟨?_,fin listed p g H a w I hall⟩
  rw [List.eq_nil_iff_forall_not_mem]
  intro i hi
  obtain ⟨o,hr⟩:=Qg3 I.lsz hi
  exact hr.no (hall i (Qcm hr))
 |succ fuel ih=>
  intro listed p g H a w I hf
  refine ⟨fun h=>fin listed p g H a w I (Qbgy T I.lsz h),?_⟩
  intro i hi
  obtain ⟨o,hr⟩:=Qg3 I.lsz hi
  have hleft:left ops.size (listed.setIfInBounds i true)=fuel:=by
   have:=Qt0 (Qcm hr) I.lsz hr.no
   omega
  have key:if Region.wanted o (yielded ops a.tmps) then o.wpIn (FR r) 0 P a w (wpAnyIn (FR r) 0 P .any ops Q fuel (listed.setIfInBounds i true)) Q else (∀f,o.about P w a.eval=some f->(FR r).fn f)/\wpAnyIn (FR r) 0 P .any ops Q fuel (listed.setIfInBounds i true) (a.put o.dst undef) w:=by
   have hT:=Q44 T I ht0 hr
   have hs:=T.step i o hr.op
   cases hk:kd i with
   |lite=>
    rw [hk] at hs
    have hst:Step P ng ops.toList o (tr i) ⟨H,[]⟩ (val i) ⟨H,[]⟩:=by
     rcases hs.2 with ⟨h1,h2⟩|⟨h1,h2⟩
     ·rw [h2];exact .skip h1
     ·exact .pure _ h1 h2
    exact hst.wp (hp:=⟨H,[]⟩) I.rel hT fun g' u w' hv hH' hE=>
     ih _ p g' H _ w' (Q0p T I hr (by rw [hk];exact id) (fun x c e h=>by rw [hk] at h;cases h) (fun x h=>by rw [hk] at h;cases h) (fun x d k v h=>by rw [hk] at h;cases h) hv hH' hE hr0 ht0) hleft
   |load b=>
    rw [hk] at hs
    have hst:Step P ng ops.toList o (tr i) ⟨H,[]⟩ (val i) ⟨H,[]⟩:=.load _ b hs.2.1 (Qbe3 T I hr hk ht0)
    exact hst.wp (hp:=⟨H,[]⟩) I.rel hT fun g' u w' hv hH' hE=>
     ih _ p g' H _ w' (Q0p T I hr (by rw [hk];exact id) (fun x c e h=>by rw [hk] at h;cases h) (fun x h=>by rw [hk] at h;cases h) (fun x d k v h=>by rw [hk] at h;cases h) hv hH' hE hr0 ht0) hleft
   |fresh x c e=>
    rw [hk] at hs
    obtain ⟨hw,⟨m,hm,hval⟩,_⟩:=hs
    have hρ:ERel g ng (tr i) a.eval:=⟨fun y v hv=>hT.eval I.rel.sig I.rel.glob hv,I.rel.sig⟩
    obtain ⟨u,C,fr,w1,hF⟩:=Qz4 (P:=P) (g:=g) (w:=w) hρ hm
    rw [Qdh I.rel.sig hw hT,if_pos rfl]
    refine ⟨fun _ _=>trivial,?_⟩
    rw [Oper.semAt_eq _ _ _ (Qz5 hm),hF.run]
    obtain ⟨g',H',I'⟩:=Qbap T I hr hk hval hF hH0 ht0
    exact ih _ p g' H' _ _ I' hleft
   |mk x=>
    rw [hk] at hs
    obtain ⟨hw,⟨ty,hop⟩,hval,_⟩:=hs
    have h1':(execOp a.eval o).run P w=.ok (.value (.map (some w.heap.size))) (w.alloc (.map #[] 0)):=by
     obtain ⟨dst,op,type,pos,after,guard⟩:=o
     simp only at hop
     subst hop
     rfl
    rw [Qdh I.rel.sig hw hT,if_pos rfl]
    refine ⟨fun _ _=>trivial,?_⟩
    rw [Oper.semAt_eq _ _ _ (by intro c';rw [hop];intro h;cases h),h1']
    obtain ⟨g',H',I'⟩:=Qbar T I hr hk hval hH0 ht0
    exact ih _ p g' H' _ _ I' hleft
   |ins x d k v=>
    rw [hk] at hs
    obtain ⟨l,hl,hp',hst⟩:=Qbak T I hr hk
    refine hst.wp (hp:=⟨H,[]⟩) I.rel hT fun g' u w' hv hH' hE=> ?_
    exact ih _ p g' _ _ w' (Qbaq T I hr hk hl hp' (by rw [hs.2.2.1];exact hv) hH' hE hr0 ht0) hleft
   |eff pre=>
    rw [hk] at hs
    obtain ⟨hm,hm',h1,h2,h3,h4,h5,h6,h7,_⟩:=hs
    obtain ⟨_,_,hlen,hmH⟩:=Qyw T I hr hk h3 h4
    have hHm:HRel ng g hm.heap w:=I.rel.weaken (by rw [h2,hlen,I.hlen]) hmH
    refine h1.wp hHm hT fun g' u w' hv hH' hE=> ?_
    obtain ⟨H',I'⟩:=Qbao T I hr hk h1 h2 h3 h4 h5 h6 h7 hv hH' hE hr0 hH0 ht0
    exact ih _ (i+1) g' H' _ w' I' hleft
  unfold wpOpIn
  rw [hr.op]
  exact key
end
end Go.Ev
namespace Go.Ev
set_option linter.unusedVariables false
def encN (l:List UInt8):Nat:=l.foldl (fun a b=>a*256+b.toNat) 1
theorem Qs3 (l:List UInt8) (b:UInt8):encN (l++[b])=encN l*256+b.toNat:=by simp [encN]
theorem Qz1: ∀(l:List UInt8) (a:Nat),(l.foldl (fun (a:Int) b=>a*256+b.toNat) (a:Int))=((l.foldl (fun a b=>a*256+b.toNat) a:Nat):Int)
 |[],a=>rfl
 |b::l,a=>by
  simp only [List.foldl_cons]
  rw [<-Qz1 l]
  congr 1
  all_goals simp
theorem Q9c (s:ByteArray):encB s=(encN s.data.toList:Nat):=Qz1 s.data.toList 1
theorem Qw2 {P:List UInt8->Prop} (h0:P []) (h1: ∀l b,P l->P (l++[b])) (l:List UInt8):P l:=by
 have: ∀n (l:List UInt8),l.length=n->P l:=by
  intro n
  induction n with
  |zero=>intro l hl;rw [List.length_eq_zero_iff.1 hl];exact h0
  |succ n ih=>
   intro l hl
   have hne:l≠[]:=by intro e;rw [e] at hl;simp at hl
   rw [<-List.dropLast_concat_getLast hne]
   exact h1 _ _ (ih _ (by simp [hl]))
 exact this _ l rfl
theorem Qy7 (l:List UInt8):1<=encN l:=by
 induction l using Qw2 with
 |h0=>exact Nat.le_refl _
 |h1 l b ih=>rw [Qs3];omega
theorem Q9e (l:List UInt8):2^l.length<=encN l:=by
 induction l using Qw2 with
 |h0=>exact Nat.le_refl _
 |h1 l b ih=>
  rw [Qs3,List.length_append,List.length_singleton,Nat.pow_succ]
  omega
theorem Q8v (l:List UInt8): ∀(f:Nat) (acc:List UInt8),l.length<f->digB f (encN l) acc=l++acc:=by
 induction l using Qw2 with
 |h0=>
  intro f acc hf
  cases f with
  |zero=>omega
  |succ f=>rfl
 |h1 l b ih=>
  intro f acc hf
  cases f with
  |zero=>omega
  |succ f=>
   have hp:=Qy7 l
   have hb:=UInt8.toNat_lt b
   have h9: ¬(encN l*256+b.toNat<=1):=by omega
   have h1:Nat.ble (encN l*256+b.toNat) 1=false:=by
    cases hc:Nat.ble (encN l*256+b.toNat) 1 with
    |true=>exact absurd (Nat.le_of_ble_eq_true hc) h9
    |false=>rfl
   rw [Qs3]
   simp only [digB,h1]
   rw [show (encN l*256+b.toNat)/256=encN l by omega,show (encN l*256+b.toNat)%256=b.toNat by omega]
   rw [ih f _ (by simp at hf;omega)]
   simp
theorem Qkw (s:ByteArray):decS (encB s)=s:=by
 unfold decS
 rw [Q9c,Int.toNat_natCast,Q8v]
 ·simp
 ·have h1:=Q9e s.data.toList
  have h2:=Qy7 s.data.toList
  have:=(Nat.le_log2 (by omega:encN s.data.toList≠0)).2 h1
  omega
end Go.Ev
