/- The evaluator, part 4. -/
import Derived.Test.YtelimhjceiamcaaDoorTEv3
set_option linter.unusedVariables false
set_option linter.unusedSimpArgs false
set_option linter.unnecessarySimpa false
namespace Go.Ev
inductive DK where
 |lite
 |load (b:Option Nat)
 |fresh (id:Nat) (c:List AVal) (e:TypeId)
 |eff (pre:List Nat)
 |mk (x:Nat)
 |ins (x:Nat) (d:TypeDesc) (k v:AVal)
def DK.isEff:DK->Prop
 |.eff _=>True
 |_=>False
def Lite (P:Program) (ng:Cx) (ops:List Oper) (o:Oper) (t:Tm) (v:AVal):Prop:=
 (Qb2 ng ops t o=some false/\v=Qcm)\/(Qb2 ng ops t o=some true/\Qgl P ng t o.op=some v)
def Qb3 (kd:Nat->DK) (anc:Nat->Nat->Prop) (i x:Nat):Prop:=(∃j c e,j<i/\kd j=.fresh x c e/\ ¬anc i j)\/ ∃j,j<i/\kd j=.mk x
def InsA (P:Program) (ng:Cx) (t:Tm) (op:Op) (x:Nat) (d:TypeDesc) (k v:AVal):Prop:=
 ∃ty m k' v' kt vt u,op=.insert ty m k' v'/\P.underlying ty=some (.map kt vt)/\P.underlying kt=some d/\ev ng t m=some (.map x)/\ev ng t k'=some k/\ev ng t v'=some v/\keyA d k=some u
structure DTr (P:Program) (ng:Cx) (ops:Array Oper) (r0:Nat) (tm tr:Nat->Tm) (hp:Nat->Hp) (val:Nat->AVal) (kd:Nat->DK) (anc:Nat->Nat->Prop):Prop where
 le0:r0<=(hp 0).heap.length
 kdn: ∀j,ops.size<=j->kd j=.lite
 edge: ∀(i:Nat) (o:Oper),ops[i]? =some o-> ∀e,e∈o.after->Region.binds .any e=true->e.on<i
 ancI: ∀i j,anc i j-> ∃o:Oper,ops[i]? =some o/\ ∃e,e∈o.after/\Region.binds .any e=true/\(e.on=j\/anc e.on j)
 dst: ∀(i j:Nat) (x y:Oper) (d:Nat),ops[i]? =some x->ops[j]? =some y->x.dst=some d->y.dst=some d->i=j
 reads: ∀(i d:Nat) (v:AVal),i<ops.size->(tr i).get d=some v->(tm i).get d=some v/\ ∀(j:Nat) (y:Oper),ops[j]? =some y->y.dst=some d->j≠i->anc i j\/anc j i
 trl: ∀i,(tr i).len=(tm i).len
 effs: ∀i j,i<j->(kd i).isEff->(kd j).isEff->anc j i
 loads: ∀i b j pre,kd i=.load (some b)->kd j=.eff pre-> ¬anc i j-> ¬anc j i->b∉pre
 tmS: ∀(i:Nat) (o:Oper),ops[i]? =some o->tm (i+1)=putA (tm i) o.dst (val i)
 uniq: ∀i j x c e c' e',kd i=.fresh x c e->kd j=.fresh x c' e'->i=j
 uniqM: ∀i j x,kd i=.mk x->kd j=.mk x->i=j
 apart: ∀i j x c e,kd i=.mk x->kd j≠.fresh x c e
 loadsM: ∀i j b,kd i=.load (some b)->kd j≠.mk b
 insM: ∀i x d k v,kd i=.ins x d k v-> ∃j,kd j=.mk x/\anc i j
 keys: ∀i j x d k v d' k' v',i≠j->kd i=.ins x d k v->kd j=.ins x d' k' v'->(∃u,keyA d k'=some u)/\Qgm k' k=false
 step: ∀(i:Nat) (o:Oper),ops[i]? =some o->match kd i with
  |.mk x=>Qb2 ng ops.toList (tr i) o=some true/\(∃ty,o.op=.makeMap ty none)/\val i=.map x/\r0<=x/\(hp 0).heap[x]? =some .gone/\hp (i+1)=⟨(hp i).heap.set x (.map []),(hp i).log⟩
  |.ins x d k v=>Qb2 ng ops.toList (tr i) o=some true/\InsA P ng (tr i) o.op x d k v/\val i=Qcm/\ ∃l,(hp i).heap[x]? =some (.map l)/\hp (i+1)=⟨(hp i).heap.set x (.map (l++[(k,v)])),(hp i).log⟩
  |.lite=>hp (i+1)=hp i/\Lite P ng ops.toList o (tr i) (val i)
  |.load b=>hp (i+1)=hp i/\Qb2 ng ops.toList (tr i) o=some true/\Qcv P ng (tr i) o.op (hp i).heap=some (val i,b)
  |.fresh x c e=>Qb2 ng ops.toList (tr i) o=some true/\(∃m,Qf3 P ng (tr i) o.op=some (c,e,m)/\val i=m.val x)/\r0<=x/\(hp 0).heap[x]? =some .gone/\
    hp (i+1)=⟨(hp i).heap.set x (.cells c e),(hp i).log⟩
  |.eff pre=> ∃hm hm',Step P ng ops.toList o (tr i) hm (val i) hm'/\hm.heap.length=(hp i).heap.length/\(∀x,Qb3 kd anc i x->hm.heap[x]? =some .gone)/\
    (∀x,¬Qb3 kd anc i x->hm.heap[x]? =(hp i).heap[x]?)/\(hp (i+1)).heap.length=hm'.heap.length/\(∀x,Qb3 kd anc i x->(hp (i+1)).heap[x]? =(hp i).heap[x]?)/\
    (∀x,¬Qb3 kd anc i x->(hp (i+1)).heap[x]? =hm'.heap[x]?)/\(∀x,x<hm.heap.length->x∉pre->hm'.heap[x]? =hm.heap[x]?)
theorem Qqr {p:Nat} {C:Nat->Prop} (h0:C p) (h1: ∀i,p<=i->C i->C (i+1)): ∀i,p<=i->C i:=by
 intro i hi;obtain ⟨d,rfl⟩:=Nat.exists_eq_add_of_le hi;clear hi;induction d with
 |zero=>exact h0
 |succ d ih=>exact h1 _ (Nat.le_add_right _ _) ih
theorem Q6y {H:List Blk} {x:Nat} (hx:x<H.length) (h: ¬Live H x):H[x]? =some .gone:=by
 rw [List.getElem?_eq_getElem hx];cases hk:H[x] with
 |gone=>rfl
 |map l=>exact absurd ⟨_,List.getElem?_eq_getElem hx,by rw [hk];simp⟩ h
 |cells c e=>exact absurd ⟨_,List.getElem?_eq_getElem hx,by rw [hk];simp⟩ h
 |loop l=>exact absurd ⟨_,List.getElem?_eq_getElem hx,by rw [hk];simp⟩ h
 |iter x l cur=>exact absurd ⟨_,List.getElem?_eq_getElem hx,by rw [hk];simp⟩ h
 |dfr=>exact absurd ⟨_,List.getElem?_eq_getElem hx,by rw [hk];simp⟩ h
 |lst s n cl e=>exact absurd ⟨_,List.getElem?_eq_getElem hx,by rw [hk];simp⟩ h
theorem Qg6 {H:List Blk} {x:Nat} (h:H[x]? =some .gone): ¬Live H x:=by
 rintro ⟨k,hk,hne⟩;rw [h] at hk;cases hk;exact hne rfl
theorem HRel.weaken {ng:Cx} {g:Inj} {H H':List Blk} {w:World} (h:HRel ng g H w) (hl:H'.length=H.length) (hw: ∀(x:Nat) (k:Blk),H'[x]? =some k->k≠.gone->H[x]? =some k):HRel ng g H' w:=
 ⟨fun i L hi=>by rw [hl];exact h.dom i L hi,fun i j L M hi hj hb ⟨k,hk,hn⟩ ⟨k',hk',hn'⟩=>h.inj i j L M hi hj hb ⟨k,hw i k hk hn,hn⟩ ⟨k',hw j k' hk' hn',hn'⟩,
  fun i k hi hk=>h.blk0 i k (hw i k hi hk) hk,h.glob,h.sig,
  h.frz.to rfl rfl (Nat.le_of_eq hl.symm) (Nat.le_refl _) fun b hb q2=>⟨rfl,fun j L hj ⟨k,hk,hn⟩=>q2 j L hj ⟨k,hw j k hk hn,hn⟩⟩⟩
theorem Ext.weaken {g0 g:Inj} {H0 H H':List Blk} {w0 w:World} (h:Ext g0 H0 w0 g H w) (hl:H0.length<=H'.length) (hw: ∀x,x<H0.length->Live H' x->Live H x):Ext g0 H0 w0 g H' w where
 sub:=h.sub
 new:=h.new
 newm:=h.newm
 len:=hl
 live:=fun i hi hl=>h.live i hi (hw i hi hl)
 size:=h.size
 frame:=h.frame
 os:=h.os
 tape:=h.tape
 output:=h.output
theorem HRel.relax {ng:Cx} {g:Inj} {H H':List Blk} {w:World} (h:HRel ng g H w) (hl:H.length<=H'.length)
  (hb: ∀(j:Nat) (k':Blk),H'[j]? =some k'->k'≠.gone-> ∃k,H[j]? =some k/\k≠.gone/\(∀L,BRel g w k L->BRel g w k' L)/\(Qce g k->Qce g k')):HRel ng g H' w:=by
 have hv: ∀j,Live H' j->Live H j:=fun j ⟨k,hk,hn⟩=>let ⟨k0,h1,h2,_⟩:=hb j k hk hn;⟨k0,h1,h2⟩;refine ⟨fun j L hj=>⟨Nat.lt_of_lt_of_le (h.dom j L hj).1 hl,(h.dom j L hj).2⟩,fun i j L M hi hj he li lj=>h.inj i j L M hi hj he (hv i li) (hv j lj),?_,h.glob,h.sig,
  h.frz.to rfl rfl hl (Nat.le_refl _) fun b hb q2=>⟨rfl,fun j L hj lj=>q2 j L hj (hv j lj)⟩⟩
 intro j k' hk' hne;obtain ⟨k,h1,h2,h3,h4⟩:=hb j k' hk' hne;rcases h.blk0 j k h1 h2 with hz|⟨L,hL,hB⟩
 exact .inl (h4 hz);exact .inr ⟨L,hL,h3 L hB⟩
theorem Ext.relax {g0 g:Inj} {H0 H H':List Blk} {w0 w:World} (h:Ext g0 H0 w0 g H w) (hl:H.length<=H'.length) (hv: ∀j,Live H' j->Live H j):Ext g0 H0 w0 g H' w:=
 ⟨h.sub,h.new,h.newm,Nat.le_trans h.len hl,fun j hj lj=>h.live j hj (hv j lj),h.size,h.frame,h.os,h.tape,h.output⟩
theorem MRel.perm {g:Inj} {l l':List (AVal×AVal)} (hp:l.Perm l'): ∀{m:List MapEntry},MRel g l m-> ∃m',m.Perm m'/\MRel g l' m':=by
 induction hp with
 |nil=>intro m h;exact ⟨m,.refl _,h⟩
 |cons x _ ih=>
  intro m h;cases h with
  |cons k v e _ m h1 h2 h3=>
   obtain ⟨m',q1,q2⟩:=ih h3;exact ⟨e::m',q1.cons e,.cons k v e _ m' h1 h2 q2⟩
 |swap x y l=>
  intro m h;cases h with
  |cons k v e _ m h1 h2 h3=>cases h3 with
   |cons k' v' e' _ m h1' h2' h3=>exact ⟨e'::e::m,List.Perm.swap _ _ _,.cons k' v' e' _ _ h1' h2' (.cons k v e _ _ h1 h2 h3)⟩
 |trans _ _ ih1 ih2=>
  intro m h;obtain ⟨m1,q1,q2⟩:=ih1 h;obtain ⟨m2,q3,q4⟩:=ih2 q2;exact ⟨m2,q1.trans q3,q4⟩
theorem BRel.perm {g:Inj} {w:World} {l l':List (AVal×AVal)} {L:Loc} (hp:l.Perm l') (h:BRel g w (.map l) L):BRel g w (.map l') L:=by
 obtain ⟨es,cl,es',h1,h2,h3,h4⟩:=h;obtain ⟨m',q1,q2⟩:=h3.perm hp;exact ⟨es,cl,m',h1,h2.trans q1,q2,h4⟩
section
variable {P : Program} {ng : Cx} {ops : Array Oper} {r0 : Nat} {tm tr : Nat -> Tm} {hp : Nat -> Hp} {val : Nat -> AVal} {kd : Nat -> DK} {anc : Nat -> Nat -> Prop}
theorem DTr.lt (T:DTr P ng ops r0 tm tr hp val kd anc) {j:Nat} (h:kd j≠.lite):j<ops.size:=by
 rcases Nat.lt_or_ge j ops.size with h1|h1;exact h1;exact absurd (T.kdn j h1) h
theorem DTr.anc_lt (T:DTr P ng ops r0 tm tr hp val kd anc): ∀(i j:Nat),anc i j->j<i:=by
 intro i;induction i using Nat.strongRecOn with
 |_ i ih=>
  intro j h;obtain ⟨o,ho,e,he,hb,h'⟩:=T.ancI i j h;have hlt:=T.edge i o ho e he hb;rcases h' with rfl|h'
  exact hlt;exact Nat.lt_trans (ih e.on hlt j h') hlt
theorem DTr.len_succ (T:DTr P ng ops r0 tm tr hp val kd anc) {i:Nat} {o:Oper} (ho:ops[i]? =some o):(hp i).heap.length<=(hp (i+1)).heap.length/\(¬(kd i).isEff->(hp (i+1)).heap.length=(hp i).heap.length):=by
 have hs:=T.step i o ho;cases hk:kd i with
 |lite=>rw [hk] at hs;rw [hs.1];simp
 |load b=>rw [hk] at hs;rw [hs.1];simp
 |fresh x c e=>rw [hk] at hs;rw [hs.2.2.2.2];simp
 |mk x=>rw [hk] at hs;rw [hs.2.2.2.2.2];simp
 |ins x d k v=>rw [hk] at hs;obtain ⟨_,_,_,l,_,h⟩:=hs;rw [h];simp
 |eff pre=>
  rw [hk] at hs;obtain ⟨hm,hm',h1,h2,_,_,h5,_⟩:=hs;have:=h1.touch.len;exact ⟨by omega,fun h=>absurd trivial h⟩
theorem DTr.other (T:DTr P ng ops r0 tm tr hp val kd anc) {i x:Nat} {o:Oper} (ho:ops[i]? =some o) (he: ¬(kd i).isEff) (hf: ∀c e,kd i≠.fresh x c e) (hm: ∀j,kd j≠.mk x):(hp (i+1)).heap[x]? =(hp i).heap[x]?:=by
 have hs:=T.step i o ho;cases hk:kd i with
 |lite=>rw [hk] at hs;rw [hs.1]
 |load b=>rw [hk] at hs;rw [hs.1]
 |fresh y c e=>
  rw [hk] at hs;rw [hs.2.2.2.2];exact List.getElem?_set_ne (fun h=>hf c e (by rw [hk,h]))
 |mk y=>
  rw [hk] at hs;rw [hs.2.2.2.2.2];exact List.getElem?_set_ne (fun h=>hm i (by rw [hk,h]))
 |ins y d k v=>
  obtain ⟨j,hj,_⟩:=T.insM i y d k v hk;rw [hk] at hs;obtain ⟨_,_,_,l,_,h⟩:=hs;rw [h];exact List.getElem?_set_ne (fun h=>hm j (by rw [hj,h]))
 |eff pre=>rw [hk] at he;exact absurd trivial he
theorem DTr.len (T:DTr P ng ops r0 tm tr hp val kd anc): ∀i,i<=ops.size->(hp 0).heap.length<=(hp i).heap.length
 |0,_=>Nat.le_refl _
 |i+1,h=>Nat.le_trans (T.len i (by omega)) (T.len_succ (o:=ops[i]) (by simp [show i<ops.size by omega])).1
theorem DTr.stable (T:DTr P ng ops r0 tm tr hp val kd anc) {p:Nat}: ∀(i:Nat),p<=i->i<=ops.size->(∀j,p<=j->j<i-> ¬(kd j).isEff)->(hp i).heap.length=(hp p).heap.length/\
  ∀x,(∀j c e,p<=j->j<i->kd j≠.fresh x c e)->(∀j,kd j≠.mk x)->(hp i).heap[x]? =(hp p).heap[x]?:=by
 refine Qqr ?_ ?_;intro _ _;exact ⟨rfl,fun _ _ _=>rfl⟩;intro i hpi ih hn hne;obtain ⟨l1,l2⟩:=ih (by omega) (fun j h1 h2=>hne j h1 (by omega));have ho:ops[i]? =some ops[i]:=by simp [show i<ops.size by omega]
 have hnei:=hne i hpi (Nat.lt_succ_self i);refine ⟨((T.len_succ ho).2 hnei).trans l1,fun x hx hxm=> ?_⟩;rw [<-l2 x (fun j c e h1 h2=>hx j c e h1 (by omega)) hxm];exact T.other ho hnei (fun c e=>hx i c e hpi (Nat.lt_succ_self i)) hxm
theorem DTr.gone_until (T:DTr P ng ops r0 tm tr hp val kd anc) {j x:Nat} {c:List AVal} {e:TypeId} (hj:kd j=.fresh x c e): ∀i,i<=j->(hp i).heap[x]? =some .gone:=by
 have hjn:j<ops.size:=T.lt (by rw [hj];simp);have hsj:=T.step j _ (by simp [hjn]:ops[j]? =some ops[j]);rw [hj] at hsj;intro i;induction i with
 |zero=>intro _;exact hsj.2.2.2.1
 |succ i ih=>
  intro hi;have ih:=ih (by omega);have ho:ops[i]? =some ops[i]:=by simp [show i<ops.size by omega]
  have hs:=T.step i _ ho;cases hk:kd i with
  |lite=>rw [hk] at hs;rw [hs.1];exact ih
  |load b=>rw [hk] at hs;rw [hs.1];exact ih
  |fresh y c' e'=>
   rw [hk] at hs;rw [hs.2.2.2.2];have hxy:y≠x:=fun he=>by subst he;have:=T.uniq i j _ _ _ _ _ hk hj;omega
   simp only [List.getElem?_set_ne hxy];exact ih
  |mk y=>rw [T.other ho (by rw [hk];exact id) (fun c e=>by rw [hk];intro h;cases h) (fun j' h=>T.apart j' j x _ _ h hj)];exact ih
  |ins y d k v=>rw [T.other ho (by rw [hk];exact id) (fun c e=>by rw [hk];intro h;cases h) (fun j' h=>T.apart j' j x _ _ h hj)];exact ih
  |eff pre=>
   rw [hk] at hs;obtain ⟨hm,hm',h1,h2,h3,h4,h5,h6,h7,h8⟩:=hs;by_cases hM:Qb3 kd anc i x;rw [h6 x hM];exact ih;rw [h7 x hM];have hx:hm.heap[x]? =some .gone:=by rw [h4 x hM];exact ih
   have hxl:x<hm.heap.length:=(List.getElem?_eq_some_iff.1 hx).1;exact Q6y (Nat.lt_of_lt_of_le hxl h1.touch.len) fun hl=>Qg6 hx (h1.touch.live x hxl hl)
theorem DTr.gone_untilM (T:DTr P ng ops r0 tm tr hp val kd anc) {j x:Nat} (hj:kd j=.mk x): ∀i,i<=j->(hp i).heap[x]? =some .gone:=by
 have hjn:j<ops.size:=T.lt (by rw [hj];simp);have hsj:=T.step j _ (by simp [hjn]:ops[j]? =some ops[j]);rw [hj] at hsj;intro i;induction i with
 |zero=>intro _;exact hsj.2.2.2.2.1
 |succ i ih=>
  intro hi;have ih:=ih (by omega);have ho:ops[i]? =some ops[i]:=by simp [show i<ops.size by omega]
  have hs:=T.step i _ ho;cases hk:kd i with
  |lite=>rw [hk] at hs;rw [hs.1];exact ih
  |load b=>rw [hk] at hs;rw [hs.1];exact ih
  |fresh y c' e'=>
   rw [hk] at hs;rw [hs.2.2.2.2];have hxy:y≠x:=fun he=>by subst he;exact T.apart j i y _ _ hj hk
   simp only [List.getElem?_set_ne hxy];exact ih
  |mk y=>
   rw [hk] at hs;rw [hs.2.2.2.2.2];have hxy:y≠x:=fun he=>by subst he;have:=T.uniqM i j y hk hj;omega
   simp only [List.getElem?_set_ne hxy];exact ih
  |ins y d k v=>
   obtain ⟨j',hj',ha⟩:=T.insM i y d k v hk;have hlt:=T.anc_lt i j' ha;rw [hk] at hs;obtain ⟨_,_,_,l,_,h⟩:=hs;rw [h];have hxy:y≠x:=fun he=>by subst he;have:=T.uniqM j' j y hj' hj;omega
   simp only [List.getElem?_set_ne hxy];exact ih
  |eff pre=>
   rw [hk] at hs;obtain ⟨hm,hm',h1,h2,h3,h4,h5,h6,h7,h8⟩:=hs;by_cases hM:Qb3 kd anc i x;rw [h6 x hM];exact ih;rw [h7 x hM];have hx:hm.heap[x]? =some .gone:=by rw [h4 x hM];exact ih
   have hxl:x<hm.heap.length:=(List.getElem?_eq_some_iff.1 hx).1;exact Q6y (Nat.lt_of_lt_of_le hxl h1.touch.len) fun hl=>Qg6 hx (h1.touch.live x hxl hl)
theorem DTr.filled (T:DTr P ng ops r0 tm tr hp val kd anc) {j x:Nat} {c:List AVal} {e:TypeId} (hj:kd j=.fresh x c e) {i:Nat} (hji:j<i) (hi:i<=ops.size) (hne: ∀k,j<k->k<i-> ¬(kd k).isEff):
  (hp i).heap[x]? =some (.cells c e):=by
 have hjn:j<ops.size:=T.lt (by rw [hj];simp);have hg:=T.gone_until hj j (Nat.le_refl _);have hsj:=T.step j _ (by simp [hjn]:ops[j]? =some ops[j]);rw [hj] at hsj;have h1:(hp (j+1)).heap[x]? =some (.cells c e):=by
  rw [hsj.2.2.2.2];have:=(List.getElem?_eq_some_iff.1 hg).1;simp [this]
 rw [(T.stable i hji hi (fun k h1 h2=>hne k h1 h2)).2 x (fun k c' e' h1 h2 hk=>by have:=T.uniq k j _ _ _ _ _ hk hj;omega) (fun k hk=>T.apart k j x _ _ hk hj)];exact h1
theorem DTr.chain (T:DTr P ng ops r0 tm tr hp val kd anc) {x p:Nat} (hx:x<(hp p).heap.length) (hxm: ∀j,kd j≠.mk x): ∀(i:Nat),p<=i->i<=ops.size->(∀j c e,p<=j->j<i->kd j≠.fresh x c e)->
  (∀j pre,p<=j->j<i->kd j=.eff pre->x∉pre)->(hp i).heap[x]? =(hp p).heap[x]?:=by
 refine Qqr ?_ ?_;intro _ _ _;rfl;intro i hpi ih hn hf he;have ih:=ih (by omega) (fun j c e h1 h2=>hf j c e h1 (by omega)) (fun j pre h1 h2=>he j pre h1 (by omega));rw [<-ih];have ho:ops[i]? =some ops[i]:=by simp [show i<ops.size by omega]
 have hs:=T.step i _ ho;cases hk:kd i with
 |lite=>rw [hk] at hs;rw [hs.1]
 |load b=>rw [hk] at hs;rw [hs.1]
 |fresh y c e=>
  rw [hk] at hs;rw [hs.2.2.2.2];exact List.getElem?_set_ne (fun he=>hf i c e hpi (Nat.lt_succ_self i) (by rw [hk,he]))
 |mk y=>exact T.other ho (by rw [hk];exact id) (fun c e=>by rw [hk];intro h;cases h) hxm
 |ins y d k v=>exact T.other ho (by rw [hk];exact id) (fun c e=>by rw [hk];intro h;cases h) hxm
 |eff pre=>
  rw [hk] at hs;obtain ⟨hm,hm',h1,h2,h3,h4,h5,h6,h7,h8⟩:=hs;by_cases hM:Qb3 kd anc i x;exact h6 x hM;rw [h7 x hM,<-h4 x hM];refine h8 x ?_ (he i pre hpi (Nat.lt_succ_self i) hk);have:x<(hp i).heap.length:=by
   have e1:(hp i).heap[x]? =some (hp p).heap[x]:=by rw [ih];simp [hx]
   exact (List.getElem?_eq_some_iff.1 e1).1
  omega
theorem Qyb (T:DTr P ng ops r0 tm tr hp val kd anc): ∀(m:Nat),m<=ops.size->(tm m).len=(tm 0).len/\(∀(d:Nat) (v:AVal),(∀(i:Nat) (o:Oper),i<m->ops[i]? =some o->o.dst≠some d)->(tm m).get d=some v->(tm 0).get d=some v)/\
  ∀(i:Nat) (o:Oper) (d:Nat) (v:AVal),i<m->ops[i]? =some o->o.dst=some d->(tm m).get d=some v->v=val i
 |0,_=>⟨rfl,fun _ _ _ h=>h,fun _ _ _ _ h=>by omega⟩
 |m+1,hm=>by
  obtain ⟨h1,h2,h3⟩:=Qyb T m (by omega);have ho:ops[m]? =some ops[m]:=by simp [show m<ops.size by omega]
  rw [T.tmS m _ ho];have hlen:(putA (tm m) ops[m].dst (val m)).len=(tm m).len:=by cases hd:ops[m].dst<;>rfl
  have back: ∀(d:Nat) (v:AVal),(putA (tm m) ops[m].dst (val m)).get d=some v->(ops[m].dst=some d/\v=val m)\/(ops[m].dst≠some d/\(tm m).get d=some v):=by
   intro d v hv;cases hdd:ops[m].dst with
   |none=>rw [hdd] at hv;exact .inr ⟨by simp,hv⟩
   |some d'=>
    rw [hdd] at hv;simp only [putA] at hv;have hlt:=Tm.get_lt hv;rcases TT.get_put _ _ _ _ _ (Tm.get_tr hv) with ⟨rfl,rfl⟩|⟨hne,hv⟩
    exact .inl ⟨rfl,rfl⟩;exact .inr ⟨fun e=>hne (Option.some.inj e).symm,Tm.get_of hv hlt⟩
  refine ⟨hlen.trans h1,?_,?_⟩;intro d v hd hv;rcases back d v hv with ⟨h9,_⟩|⟨_,h9⟩
  exact absurd h9 (hd m _ (Nat.lt_succ_self m) ho);exact h2 d v (fun i o hi=>hd i o (by omega)) h9;intro i o d v hi hoi hd hv;rcases back d v hv with ⟨h8,h9⟩|⟨h8,h9⟩
  have:=T.dst i m _ _ _ hoi ho hd h8;subst this;exact h9;rcases Nat.lt_or_ge i m with h7|h7
  exact h3 i o d v h7 hoi hd h9;have:i=m:=by omega
  subst this;rw [ho] at hoi;cases hoi;exact absurd hd h8
def Ls (listed:Array Bool) (i:Nat):Prop:=listed.getD i false=true
theorem Q3 (listed:Array Bool) (i j:Nat) (hi:i<listed.size):Ls (listed.setIfInBounds i true) j↔j=i\/Ls listed j:=by
 unfold Ls;by_cases h:j=i;subst h;simp [hi];simp [h,Array.getElem?_setIfInBounds_ne (Ne.symm h)]
def ents (kd:Nat->DK) (listed:Array Bool) (x:Nat):Nat->List (AVal×AVal)
 |0=>[]
 |n+1=>match kd n with
  |.ins y _ k v=>if y=x/\listed.getD n false=true then ents kd listed x n++[(k,v)] else ents kd listed x n
  |_=>ents kd listed x n
theorem Qjg {kd:Nat->DK} {listed:Array Bool} {x i:Nat} (hi:i<listed.size) (hk: ∀d k v,kd i≠.ins x d k v): ∀n,ents kd (listed.setIfInBounds i true) x n=ents kd listed x n
 |0=>rfl
 |n+1=>by
  have ih:=Qjg hi hk n;simp only [ents];split;rename_i y d k v hn;have hls:=Q3 listed i n hi;unfold Ls at hls;by_cases hy:y=x;subst hy;have hne:n≠i:=fun e=>hk d k v (by rw [<-e];exact hn);simp only [hls,hne,false_or,ih];simp only [hy,false_and,if_false,ih];exact ih
theorem Q0m {kd:Nat->DK} {listed:Array Bool} {x i:Nat} {d:TypeDesc} {k v:AVal} (hi:i<listed.size) (hk:kd i=.ins x d k v) (hn: ¬Ls listed i): ∀n,i<n->(ents kd listed x n++[(k,v)]).Perm (ents kd (listed.setIfInBounds i true) x n)
 |0,h=>by omega
 |n+1,h=>by
  have hls:=Q3 listed i n hi;unfold Ls at hls hn;by_cases hni:n=i;subst hni;have e: ∀m,m<=n->ents kd (listed.setIfInBounds n true) x m=ents kd listed x m:=by
   intro m;induction m with
   |zero=>intro _;rfl
   |succ m ih=>
    intro hm;have ih:=ih (by omega);have hls2:=Q3 listed n m hi;unfold Ls at hls2;simp only [ents];split;have hne:m≠n:=by omega
    simp only [hls2,hne,false_or,ih];exact ih
  simp only [ents,hk,e n (Nat.le_refl _),hls,true_or,and_self,if_true];rw [if_neg (by intro h;exact hn h.2)];have ih:=Q0m hi hk hn n (by omega);simp only [ents];split;rename_i y d' k' v' hy;simp only [hls,hni,false_or];split
  ·refine List.Perm.trans ?_ (ih.append_right [(k',v')])
   simp only [List.append_assoc];exact List.Perm.append_left _ (List.Perm.swap _ _ _)
  exact ih;exact ih
theorem Qjf {kd:Nat->DK} {listed:Array Bool} {x:Nat} {q:AVal×AVal}: ∀n,q∈ents kd listed x n-> ∃i d,i<n/\Ls listed i/\kd i=.ins x d q.1 q.2
 |0,h=>by simp [ents] at h
 |n+1,h=>by
  simp only [ents] at h;split at h;rename_i y d k v hn;split at h;rename_i hc;rcases List.mem_append.1 h with h|h
  obtain ⟨i,d',h1,h2,h3⟩:=Qjf n h;exact ⟨i,d',by omega,h2,h3⟩;simp at h;subst h;exact ⟨n,d,by omega,hc.2,by rw [hn,hc.1]⟩;obtain ⟨i,d',h1,h2,h3⟩:=Qjf n h;exact ⟨i,d',by omega,h2,h3⟩;obtain ⟨i,d',h1,h2,h3⟩:=Qjf n h;exact ⟨i,d',by omega,h2,h3⟩
theorem Q0z {d:TypeDesc} {k:AVal}: ∀{l:List (AVal×AVal)},(∀q∈l,(∃u,keyA d q.1=some u)/\Qgm q.1 k=false)->Qfa d k l=some none
 |[],_=>rfl
 |(k',v)::l,h=>by
  obtain ⟨⟨u,h1⟩,h2⟩:=h (k',v) (by simp);simp only [Qfa];simp only [] at h1 h2;rw [h1,h2];exact Q0z fun q hq=>h q (List.mem_cons_of_mem _ hq)
structure Inv (P:Program) (ng:Cx) (ops:Array Oper) (r0:Nat) (tm:Nat->Tm) (hp:Nat->Hp) (val:Nat->AVal) (kd:Nat->DK) (g0:Inj) (H0:List Blk) (w0:World) (a0:Act) (listed:Array Bool) (p:Nat) (g:Inj) (H:List Blk)
  (a:Act) (w:World):Prop where
 lsz:listed.size=ops.size
 down: ∀(i:Nat) (o:Oper),ops[i]? =some o->Ls listed i-> ∀e,e∈o.after->Region.binds .any e=true->Ls listed e.on
 pn:p<=ops.size
 pl:p=0\/(0<p/\(kd (p-1)).isEff/\Ls listed (p-1))
 ph: ∀j,p<=j->(kd j).isEff-> ¬Ls listed j
 hlen:H.length=(hp p).heap.length
 h1: ∀x,(∀j c e,kd j≠.fresh x c e)->(∀j,kd j≠.mk x)->H[x]? =(hp p).heap[x]?
 h4: ∀j x,kd j=.mk x->(Ls listed j-> ∃l,H[x]? =some (.map l)/\l.Perm (ents kd listed x ops.size))/\(¬Ls listed j->H[x]? =some .gone/\g x=none)
 h2: ∀j x c e,kd j=.fresh x c e->Ls listed j->H[x]? =if j<p then (hp p).heap[x]? else some (.cells c e)
 h3: ∀j x c e,kd j=.fresh x c e-> ¬Ls listed j->H[x]? =some .gone/\g x=none
 rel:HRel ng g H w
 ext:Ext g0 H0 w0 g H w
 asz:a.tmps.size=a0.tmps.size
 adf:a.defers=a0.defers
 t1: ∀(i:Nat) (o:Oper) (d:Nat),ops[i]? =some o->o.dst=some d->Ls listed i->d<(tm 0).len-> ∃u,a.tmps[d]? =some u/\VRel g (val i) u
 t2: ∀(d:Nat) (v:AVal),(∀(i:Nat) (o:Oper),ops[i]? =some o->Ls listed i->o.dst≠some d)->(tm 0).get d=some v-> ∃u,a.tmps[d]? =some u/\VRel g v u
end
end Go.Ev
namespace Go.Ev
section
variable {P : Program} {ng : Cx} {ops : Array Oper} {r0 : Nat} {tm tr : Nat -> Tm} {hp : Nat -> Hp} {val : Nat -> AVal} {kd : Nat -> DK} {anc : Nat -> Nat -> Prop}
variable {g0 : Inj} {H0 : List Blk} {w0 : World} {a0 : Act} {listed : Array Bool} {p : Nat} {g : Inj} {H : List Blk} {a : Act} {w : World}
theorem Qg2 (T:DTr P ng ops r0 tm tr hp val kd anc) (down: ∀(i:Nat) (o:Oper),ops[i]? =some o->Ls listed i-> ∀e,e∈o.after->Region.binds .any e=true->Ls listed e.on):
  ∀(i:Nat),Ls listed i-> ∀j,anc i j->Ls listed j:=by
 intro i;induction i using Nat.strongRecOn with
 |_ i ih=>
  intro hi j h;obtain ⟨o,ho,e,he,hb,h'⟩:=T.ancI i j h;have hl:=down i o ho hi e he hb;rcases h' with rfl|h'
  exact hl;exact ih e.on (T.edge i o ho e he hb) hl j h'
theorem Q53 {S:Nat->Blk->Prop}: ∀(n:Nat),(∀x,x<n-> ∃k,S x k)-> ∃L:List Blk,L.length=n/\ ∀x,x<n-> ∃k,L[x]? =some k/\S x k
 |0,_=>⟨[],rfl,fun x hx=>by omega⟩
 |n+1,h=>by
  obtain ⟨L,h1,h2⟩:=Q53 n (fun x hx=>h x (by omega));obtain ⟨k,hk⟩:=h n (Nat.lt_succ_self n);refine ⟨L++[k],by simp [h1],fun x hx=> ?_⟩;rcases Nat.lt_or_ge x n with h9|h9;obtain ⟨k',q1,q2⟩:=h2 x h9;exact ⟨k',by rw [List.getElem?_append_left (by omega)];exact q1,q2⟩;have:x=n:=by omega
  subst this;exact ⟨k,by rw [<-h1];simp,hk⟩
structure Rdy (ops:Array Oper) (listed:Array Bool) (i:Nat) (o:Oper):Prop where
 op:ops[i]? =some o
 no: ¬Ls listed i
 edges: ∀e,e∈o.after->Region.binds .any e=true->Ls listed e.on
theorem Qc8 {i:Nat} {o:Oper} (hr:Rdy ops listed i o):i<ops.size:=(Array.getElem?_eq_some_iff.1 hr.op).1
theorem Qif {i:Nat} (hl:listed.size=ops.size) (h:i∈Region.ready .any ops listed): ∃o,Rdy ops listed i o:=by
 unfold Region.ready at h;simp only [List.mem_filter,List.mem_range,Bool.and_eq_true,Bool.not_eq_true'] at h;obtain ⟨hi,h1,h2⟩:=h;have ho:ops[i]? =some ops[i]:=by simp [hi]
 refine ⟨ops[i],ho,?_,?_⟩;unfold Ls;have:i<listed.size:=by omega
 simp [this] at h1⊢;exact h1;intro e he hb;rw [ho] at h2;simp only [Option.map_some,Option.getD_some,Array.all_eq_true_iff_forall_mem] at h2;have:=h2 e he;simpa [hb,Ls] using this
theorem Qblc (T:DTr P ng ops r0 tm tr hp val kd anc) (hl:listed.size=ops.size) (h:Region.ready .any ops listed=[]): ∀i,i<ops.size->Ls listed i:=by
 intro i;induction i using Nat.strongRecOn with
 |_ i ih=>
  intro hi;refine Classical.byContradiction fun hn=> ?_;have ho:ops[i]? =some ops[i]:=by simp [hi]
  have hm:i∈Region.ready .any ops listed:=by
   unfold Region.ready;simp only [List.mem_filter,List.mem_range,Bool.and_eq_true,Bool.not_eq_true'];refine ⟨hi,?_,?_⟩;unfold Ls at hn;have:i<listed.size:=by omega
   simp [this] at hn⊢;exact hn;rw [ho];simp only [Option.map_some,Option.getD_some,Array.all_eq_true_iff_forall_mem];intro e he;by_cases hb:Region.binds .any e=true;have:=ih e.on (T.edge i _ ho e he hb) (by have:=T.edge i _ ho e he hb;omega);simpa [hb,Ls] using this;simp [hb]
  rw [h] at hm;cases hm
theorem Qko (T:DTr P ng ops r0 tm tr hp val kd anc) (I:Inv P ng ops r0 tm hp val kd g0 H0 w0 a0 listed p g H a w) {i:Nat} {o:Oper} (hr:Rdy ops listed i o) {j:Nat} (h:anc i j):Ls listed j:=by
 obtain ⟨o',ho,e,he,hb,h'⟩:=T.ancI i j h;rw [hr.op] at ho;cases ho;have hl:=hr.edges e he hb;rcases h' with rfl|h';exact hl;exact Qg2 T I.down e.on hl j h'
theorem Q7z (T:DTr P ng ops r0 tm tr hp val kd anc) (I:Inv P ng ops r0 tm hp val kd g0 H0 w0 a0 listed p g H a w) (ht0:(tm 0).len<=a0.tmps.size) {i:Nat} {o:Oper} (hr:Rdy ops listed i o):TRel g (tr i) a:=by
 have hi:=Qc8 hr;obtain ⟨k1,k2,k3⟩:=Qyb T i (by omega);refine ⟨by rw [T.trl,k1,I.asz];exact ht0,?_⟩;intro d v hd;obtain ⟨h1,h2⟩:=T.reads i d v hi hd;by_cases hw: ∃j y,j<i/\ops[j]? =some y/\y.dst=some d;obtain ⟨j,y,hj,hy,hyd⟩:=hw;have hl:Ls listed j:=by
  rcases h2 j y hy hyd (by omega) with h|h;exact Qko T I hr h;have:=T.anc_lt j i h;omega
 have hlt:d<(tm 0).len:=by rw [<-k1];exact Tm.get_lt h1
 rw [k3 j y d v hj hy hyd h1];exact I.t1 j y d hy hyd hl hlt;have hno: ∀(j:Nat) (y:Oper),j<i->ops[j]? =some y->y.dst≠some d:=fun j y hj hy hyd=>hw ⟨j,y,hj,hy,hyd⟩;have h1:=k2 d v hno h1;refine I.t2 d v ?_ h1;intro j y hy hl hyd;have hji:j≠i:=fun e=>hr.no (e▸hl);rcases h2 j y hy hyd hji with h|h
 exact hno j y (T.anc_lt i j h) hy hyd;exact hr.no (Qg2 T I.down j hl i h)
theorem Qoq (T:DTr P ng ops r0 tm tr hp val kd anc) (I:Inv P ng ops r0 tm hp val kd g0 H0 w0 a0 listed p g H a w) {i:Nat} {o:Oper} (hr:Rdy ops listed i o) {g':Inj} {u:Value} (hs:Sub g g') (hv:VRel g' (val i) u) (ht0:(tm 0).len<=a0.tmps.size):
  (∀(j:Nat) (y:Oper) (d:Nat),ops[j]? =some y->y.dst=some d->Ls (listed.setIfInBounds i true) j->d<(tm 0).len-> ∃u',(a.put o.dst u).tmps[d]? =some u'/\VRel g' (val j) u')/\
  (∀(d:Nat) (v:AVal),(∀(j:Nat) (y:Oper),ops[j]? =some y->Ls (listed.setIfInBounds i true) j->y.dst≠some d)->(tm 0).get d=some v-> ∃u',(a.put o.dst u).tmps[d]? =some u'/\VRel g' v u'):=by
 have hi:=Qc8 hr;have hil:i<listed.size:=by rw [I.lsz];exact hi
 constructor
 ·intro j y d hy hyd hl hlt
  rw [Q3 listed i j hil] at hl;rcases hl with rfl|hl
  rw [hr.op] at hy;cases hy;refine ⟨u,?_,hv⟩;have:d<a.tmps.size:=by rw [I.asz];omega
  simp [Act.put,hyd,this];obtain ⟨u',h1,h2⟩:=I.t1 j y d hy hyd hl hlt;refine ⟨u',?_,h2.mono hs⟩;cases hod:o.dst with
  |none=>simpa [Act.put] using h1
  |some d'=>
   simp only [Act.put];rw [Array.getElem?_setIfInBounds_ne];exact h1;intro he;subst he;have:=T.dst i j _ _ _ hr.op hy hod hyd;subst this;exact hr.no hl
 intro d v hno hd;obtain ⟨u',h1,h2⟩:=I.t2 d v (fun j y hy hl=>hno j y hy ((Q3 listed i j hil).2 (.inr hl))) hd;refine ⟨u',?_,h2.mono hs⟩;have hod:=hno i o hr.op ((Q3 listed i i hil).2 (.inl rfl));cases ho:o.dst with
 |none=>simpa [Act.put] using h1
 |some d'=>
  simp only [Act.put];rw [Array.getElem?_setIfInBounds_ne (fun he=>hod (by rw [ho,he]))];exact h1
theorem Qlu (I:Inv P ng ops r0 tm hp val kd g0 H0 w0 a0 listed p g H a w) {i:Nat} {o:Oper} (hr:Rdy ops listed i o): ∀(j:Nat) (y:Oper),ops[j]? =some y->Ls (listed.setIfInBounds i true) j-> ∀e,e∈y.after->Region.binds .any e=true->Ls (listed.setIfInBounds i true) e.on:=by
 have hil:i<listed.size:=by rw [I.lsz];exact Qc8 hr
 intro j y hy hl e he hb;rw [Q3 listed i _ hil] at hl⊢;rcases hl with rfl|hl
 rw [hr.op] at hy;cases hy;exact .inr (hr.edges e he hb);exact .inr (I.down j y hy hl e he hb)
theorem Q1y (T:DTr P ng ops r0 tm tr hp val kd anc) (I:Inv P ng ops r0 tm hp val kd g0 H0 w0 a0 listed p g H a w) {i:Nat} {o:Oper} (hr:Rdy ops listed i o) (hk: ¬(kd i).isEff) (hf: ∀x c e,kd i≠.fresh x c e) (hfm: ∀x,kd i≠.mk x) (hfi: ∀x d k v,kd i≠.ins x d k v) {g':Inj} {u:Value} {w':World} (hv:VRel g' (val i) u) (hH':HRel ng g' H w') (hE:Ext g H w g' H w')
  (hr0:HRel ng g0 H0 w0) (ht0:(tm 0).len<=a0.tmps.size):Inv P ng ops r0 tm hp val kd g0 H0 w0 a0 (listed.setIfInBounds i true) p g' H (a.put o.dst u) w':=by
 have hil:i<listed.size:=by rw [I.lsz];exact Qc8 hr
 obtain ⟨t1,t2⟩:=Qoq T I hr hE.sub hv ht0;refine ⟨by simp [I.lsz],Qlu I hr,I.pn,?_,?_,I.hlen,I.h1,?_,?_,?_,hH',Ext.trans hr0 I.ext hE,?_,?_,t1,t2⟩;rcases I.pl with h|⟨h,h',h''⟩;exact .inl h;exact .inr ⟨h,h',(Q3 listed i _ hil).2 (.inr h'')⟩;intro j hj he hl;rw [Q3 listed i _ hil] at hl;rcases hl with rfl|hl;exact hk he;exact I.ph j hj he hl
 ·intro j x hj
  rw [Qjg hil (hfi x),Q3 listed i _ hil];obtain ⟨k1,k2⟩:=I.h4 j x hj;refine ⟨fun hl=> ?_,fun hl=> ?_⟩;rcases hl with rfl|hl
  exact absurd hj (hfm x);exact k1 hl;obtain ⟨q1,q2⟩:=k2 (fun h=>hl (.inr h));refine ⟨q1,?_⟩;cases hg:g' x with
  |none=>rfl
  |some L=>
   have:=(hE.new x L hg q2).1;have h9:=(List.getElem?_eq_some_iff.1 q1).1;omega
 intro j x c e hj hl;rw [Q3 listed i _ hil] at hl;rcases hl with rfl|hl
 exact absurd hj (hf x c e);exact I.h2 j x c e hj hl
 ·intro j x c e hj hl
  rw [Q3 listed i _ hil] at hl;obtain ⟨k1,k2⟩:=I.h3 j x c e hj (fun h=>hl (.inr h));refine ⟨k1,?_⟩;cases hg:g' x with
  |none=>rfl
  |some L=>
   have:=(hE.new x L hg k2).1;have h9:=(List.getElem?_eq_some_iff.1 k1).1;omega
 rw [<-I.asz];cases o.dst<;>simp [Act.put];rw [<-I.adf];cases o.dst<;>rfl
theorem Qbjc (T:DTr P ng ops r0 tm tr hp val kd anc) (I:Inv P ng ops r0 tm hp val kd g0 H0 w0 a0 listed p g H a w) {i:Nat} {o:Oper} (hr:Rdy ops listed i o) {b:Option Nat} (hk:kd i=.load b) (ht0:(tm 0).len<=a0.tmps.size):Qcv P ng (tr i) o.op H=some (val i,b):=by
 have hs:=T.step i o hr.op;rw [hk] at hs;obtain ⟨_,hw,hl⟩:=hs;have hi:=Qc8 hr;have hT:=Q7z T I ht0 hr;refine Qbi8 hl fun x hx=> ?_;subst hx;have hρ:ERel g ng (tr i) a.eval:=⟨fun y v hv=>hT.eval I.rel.sig I.rel.glob hv,I.rel.sig⟩;obtain ⟨L,hL⟩:=Qbi9 hρ hl;obtain ⟨c0,hlive,hc0⟩:=Qbja hl;have hxH:x<(hp p).heap.length:=by rw [<-I.hlen];exact (I.rel.dom x L hL).1
 have hxi:x<(hp i).heap.length:=(List.getElem?_eq_some_iff.1 hlive).1;have hun1: ∀j pre,p<=j->j<i->kd j=.eff pre->x∉pre:=by
  intro j pre h1 h2 h3;refine T.loads i x j pre hk h3 (fun h=> ?_) (fun h=> ?_);exact I.ph j h1 (by rw [h3];trivial) (Qko T I hr h);have:=T.anc_lt j i h;omega
 have hun2: ∀j pre,i<=j->j<p->kd j=.eff pre->x∉pre:=by
  intro j pre h1 h2 h3;refine T.loads i x j pre hk h3 (fun h=> ?_) (fun h=> ?_);have:=T.anc_lt i j h;omega;have hlj:Ls listed j:=by
   rcases I.pl with h0|⟨h0,h0',h0''⟩;omega;rcases Nat.lt_or_ge j (p-1) with h9|h9;exact Qg2 T I.down (p-1) h0'' j (T.effs j (p-1) h9 (by rw [h3];trivial) h0');have:j=p-1:=by omega
   rw [this];exact h0''
  exact hr.no (Qg2 T I.down j hlj i h)
 by_cases hown: ∃j c e,kd j=.fresh x c e;obtain ⟨j,c,e,hj⟩:=hown;have hnm: ∀j',kd j'≠.mk x:=fun j'=>T.loadsM i j' x hk;have hlj:Ls listed j:=by
  refine Classical.byContradiction fun hn=> ?_;have:=(I.h3 j x c e hj hn).2;rw [hL] at this;cases this
 have hji:j<i:=by
  rcases Nat.lt_or_ge j i with h9|h9;exact h9;have:=T.gone_until hj i h9;rw [hlive] at this;cases this;exact absurd rfl hc0
 rw [I.h2 j x c e hj hlj];have huq: ∀k c' e',kd k=.fresh x c' e'->k=j:=fun k c' e' hk'=>T.uniq k j _ _ _ _ _ hk' hj;split;rename_i hjp;rcases Nat.le_total p i with hpi|hpi
 exact (T.chain hxH hnm i hpi (by omega) (fun k c' e' h1 _ hk'=>by have:=huq k c' e' hk';omega) hun1).symm;exact T.chain hxi hnm p hpi I.pn (fun k c' e' h1 _ hk'=>by have:=huq k c' e' hk';omega) hun2;rename_i hjp;have hf:=T.filled hj (Nat.lt_succ_self j) (by omega) (fun k h1 h2=>by omega);have hxj:x<(hp (j+1)).heap.length:=(List.getElem?_eq_some_iff.1 hf).1;rw [<-hf];exact (T.chain hxj hnm i hji (by omega) (fun k c' e' h1 _ hk'=>by have:=huq k c' e' hk';omega) (fun k pre h1 h2 h3=>hun1 k pre (by omega) h2 h3)).symm;have hno: ∀j c e,kd j≠.fresh x c e:=fun j c e hj=>hown ⟨j,c,e,hj⟩;have hnm: ∀j',kd j'≠.mk x:=fun j'=>T.loadsM i j' x hk;rw [I.h1 x hno hnm];rcases Nat.le_total p i with hpi|hpi
 exact (T.chain hxH hnm i hpi (by omega) (fun k c' e' _ _=>hno k c' e') hun1).symm;exact T.chain hxi hnm p hpi I.pn (fun k c' e' _ _=>hno k c' e') hun2
theorem Qbc7 (T:DTr P ng ops r0 tm tr hp val kd anc) (I:Inv P ng ops r0 tm hp val kd g0 H0 w0 a0 listed p g H a w) {i x:Nat} {c:List AVal} {e:TypeId} {o:Oper} (hr:Rdy ops listed i o) (hk:kd i=.fresh x c e) (hip:i<p):(hp p).heap[x]? =some (.cells c e):=by
 have key: ∀k,i+1<=k->(k<=p->(hp k).heap[x]? =some (.cells c e)):=by
  refine Qqr ?_ ?_;intro _;exact T.filled hk (Nat.lt_succ_self i) (by have:=I.pn;omega) (fun k h1 h2=>by omega);intro k hik ih hkp;have ih:=ih (by omega);have hkn:k<ops.size:=by have:=I.pn;omega
  have ho:ops[k]? =some ops[k]:=by simp [hkn]
  have hs:=T.step k _ ho;cases hkk:kd k with
  |lite=>rw [hkk] at hs;rw [hs.1];exact ih
  |load b=>rw [hkk] at hs;rw [hs.1];exact ih
  |fresh y c' e'=>
   rw [hkk] at hs;rw [hs.2.2.2.2];have hxy:y≠x:=fun he=>by subst he;have:=T.uniq k i _ _ _ _ _ hkk hk;omega
   simp only [List.getElem?_set_ne hxy];exact ih
  |mk y=>rw [T.other ho (by rw [hkk];exact id) (fun c e=>by rw [hkk];intro h;cases h) (fun j' h=>T.apart j' i x _ _ h hk)];exact ih
  |ins y d k' v=>rw [T.other ho (by rw [hkk];exact id) (fun c e=>by rw [hkk];intro h;cases h) (fun j' h=>T.apart j' i x _ _ h hk)];exact ih
  |eff pre=>
   rw [hkk] at hs;obtain ⟨hm,hm',h1,h2,h3,h4,h5,h6,h7,h8⟩:=hs;have hlk:Ls listed k:=by
    rcases I.pl with h0|⟨h0,h0',h0''⟩;omega;rcases Nat.lt_or_ge k (p-1) with h9|h9;exact Qg2 T I.down (p-1) h0'' k (T.effs k (p-1) h9 (by rw [hkk];trivial) h0');have:k=p-1:=by omega
    rw [this];exact h0''
   have hM:Qb3 kd anc k x:=.inl ⟨i,c,e,by omega,hk,fun h=>hr.no (Qg2 T I.down k hlk i h)⟩;rw [h6 x hM];exact ih
 exact key p hip (Nat.le_refl _)
theorem Qbdn (T:DTr P ng ops r0 tm tr hp val kd anc) (I:Inv P ng ops r0 tm hp val kd g0 H0 w0 a0 listed p g H a w) {i x:Nat} {c:List AVal} {e:TypeId} {m:Mk} {o:Oper} (hr:Rdy ops listed i o) (hk:kd i=.fresh x c e) (hval:val i=m.val x) {u:Value} {C:Array Value} {fr:Nat×Nat} {w1:World}
  (hF:Fresh P g a.eval w o c e m u C fr w1) (hH0:H0.length=r0) (ht0:(tm 0).len<=a0.tmps.size):
  ∃g' H',Inv P ng ops r0 tm hp val kd g0 H0 w0 a0 (listed.setIfInBounds i true) p g' H' (a.put o.dst u) (w1.alloc (.cells C e fr)):=by
 have hil:i<listed.size:=by rw [I.lsz];exact Qc8 hr
 obtain ⟨hHx,hgx⟩:=I.h3 i x c e hk hr.no;have hs:=T.step i o hr.op;rw [hk] at hs;obtain ⟨_,_,hx0,hx1,_⟩:=hs;have hxl:x<H.length:=(List.getElem?_eq_some_iff.1 hHx).1;have hng:ng.n<=x:=by
  rcases Nat.lt_or_ge x ng.n with h9|h9;obtain ⟨L,hL,_⟩:=I.rel.glob x h9;rw [hgx] at hL;cases hL;exact h9
 have hal:=HRel.alloc I.rel (H':=H.set x (.cells c e)) hgx hng (c:=c) (e:=e) (C:=C) (fr:=fr) hF.heap hF.os hF.tape hF.output (by simp [hxl]) (fun j hj=>List.getElem?_set_ne (Ne.symm hj)) (by simp)
  (.inr (Qg6 hHx)) hF.fr hF.len hF.rel
 have hsub:=Qe0 (⟨w.heap.size,0,C.size⟩:Loc) hgx;have hv:VRel (upd g x ⟨w.heap.size,0,C.size⟩) (val i) u:=by rw [hval];exact hF.val _ _ (Q4 _ _ _)
 obtain ⟨t1,t2⟩:=Qoq T I hr hsub hv ht0;refine ⟨upd g x ⟨w.heap.size,0,C.size⟩,H.set x (.cells c e),by simp [I.lsz],Qlu I hr,I.pn,?_,?_,by simp [I.hlen],?_,?_,?_,?_,hal.1,?_,?_,?_,t1,t2⟩;rcases I.pl with h|⟨h,h',h''⟩;exact .inl h;exact .inr ⟨h,h',(Q3 listed i _ hil).2 (.inr h'')⟩;intro j hj he hl;rw [Q3 listed i _ hil] at hl;rcases hl with rfl|hl;rw [hk] at he;exact he;exact I.ph j hj he hl;intro y hy hym;have hxy:x≠y:=fun he=>hy i c e (by rw [hk,he]);rw [List.getElem?_set_ne hxy];exact I.h1 y hy hym;intro j y hj;have hxy:x≠y:=fun he=>by subst he;exact T.apart j i x _ _ hj hk
 rw [List.getElem?_set_ne hxy,Qy g _ (Ne.symm hxy),Qjg hil (by rw [hk];intro d k v h;cases h),Q3 listed i _ hil];have hji:j≠i:=fun h=>by rw [h,hk] at hj;cases hj
 obtain ⟨k1,k2⟩:=I.h4 j y hj;exact ⟨fun h=>k1 (h.resolve_left hji),fun h=>k2 (fun h'=>h (.inr h'))⟩;intro j y c' e' hj hl;rw [Q3 listed i _ hil] at hl;by_cases hji:j=i;subst hji;rw [hk] at hj;cases hj;simp only [List.getElem?_set_self hxl];split;rename_i hjp;exact (Qbc7 T I hr hk hjp).symm;rfl;have hl:Ls listed j:=by rcases hl with h|h;exact absurd h hji;exact h
 have hxy:x≠y:=fun he=>by subst he;exact hji (T.uniq j i _ _ _ _ _ hj hk)
 rw [List.getElem?_set_ne hxy];exact I.h2 j y c' e' hj hl;intro j y c' e' hj hl;rw [Q3 listed i _ hil] at hl;have hji:j≠i:=fun h=>hl (.inl h);have hxy:x≠y:=fun he=>by subst he;exact hji (T.uniq j i _ _ _ _ _ hj hk)
 obtain ⟨k1,k2⟩:=I.h3 j y c' e' hj (fun h=>hl (.inr h));exact ⟨by rw [List.getElem?_set_ne hxy];exact k1,by rw [Qy g _ (Ne.symm hxy)];exact k2⟩;have E:=I.ext;have hold: ∀b,b<w.heap.size->(w1.alloc (.cells C e fr)).heap[b]? =w.heap[b]?:=by
  intro b hb;simp only [World.alloc,hF.heap,Array.getElem?_push];rw [if_neg (by omega)]
 have hsz:(w1.alloc (.cells C e fr)).heap.size=w.heap.size+1:=by simp [World.alloc,hF.heap]
 constructor;exact E.sub.trans hsub;intro j L hj hn;by_cases hjx:j=x;subst hjx;rw [Q4] at hj;cases hj;exact ⟨by rw [hH0];exact hx0,.inl E.size⟩;rw [Qy g _ hjx] at hj;exact E.new j L hj hn;exact E.newm;simpa using E.len;intro j hj hl;have hjx:x≠j:=by omega
 refine E.live j hj ?_;unfold Live at hl⊢;rw [List.getElem?_set_ne hjx] at hl;exact hl;rw [hsz];have:=E.size;omega;intro b hb hno;rw [hold b (Nat.lt_of_lt_of_le hb E.size)];exact E.frame b hb hno;exact hF.os.trans E.os;exact hF.tape.trans E.tape;exact hF.output.trans E.output;rw [<-I.asz];cases o.dst<;>simp [Act.put];rw [<-I.adf];cases o.dst<;>rfl
theorem Qz5 (T:DTr P ng ops r0 tm tr hp val kd anc) (I:Inv P ng ops r0 tm hp val kd g0 H0 w0 a0 listed p g H a w) {i:Nat} {pre:List Nat} {o:Oper} (hr:Rdy ops listed i o) (hk:kd i=.eff pre) {hm:Hp} (h3: ∀x,Qb3 kd anc i x->hm.heap[x]? =some .gone)
  (h4: ∀x,¬Qb3 kd anc i x->hm.heap[x]? =(hp i).heap[x]?):
  p<=i/\(∀j,p<=j->j<i-> ¬(kd j).isEff)/\(hp i).heap.length=(hp p).heap.length/\ ∀(x:Nat) (k:Blk),hm.heap[x]? =some k->k≠.gone->H[x]? =some k:=by
 have hi:=Qc8 hr;have hke:(kd i).isEff:=by rw [hk];trivial
 have hpi:p<=i:=by
  refine Classical.byContradiction fun hn=> ?_;rcases I.pl with h0|⟨h0,h0',h0''⟩
  omega;rcases Nat.lt_or_ge i (p-1) with h9|h9
  exact hr.no (Qg2 T I.down (p-1) h0'' i (T.effs i (p-1) h9 hke h0'));have:i=p-1:=by omega
  rw [<-this] at h0'';exact hr.no h0''
 have hno: ∀j,p<=j->j<i-> ¬(kd j).isEff:=fun j h1 h2 he=>I.ph j h1 he (Qko T I hr (T.effs j i h2 he hke));obtain ⟨l1,l2⟩:=T.stable i hpi (by omega) hno;refine ⟨hpi,hno,l1,?_⟩;intro x k hx hne;have hM: ¬Qb3 kd anc i x:=fun h=>by rw [h3 x h] at hx;cases hx;exact hne rfl
 rw [h4 x hM] at hx;by_cases hown: ∃j c e,kd j=.fresh x c e;obtain ⟨j,c,e,hj⟩:=hown;have hji:j<i:=by
  rcases Nat.lt_or_ge j i with h9|h9;exact h9;rw [T.gone_until hj i h9] at hx;cases hx;exact absurd rfl hne
 have hanc:anc i j:=Classical.byContradiction fun h=>hM (.inl ⟨j,c,e,hji,hj,h⟩);rw [I.h2 j x c e hj (Qko T I hr hanc)];split;rename_i hjp;rw [<-l2 x (fun k c' e' h1 _ hk'=>by have:=T.uniq k j _ _ _ _ _ hk' hj;omega) (fun k hk'=>T.apart k j x _ _ hk' hj)];exact hx;rename_i hjp;rw [T.filled hj hji (by omega) (fun k h1 h2=>hno k (by omega) h2)] at hx;exact hx;have hnm: ∀j,kd j≠.mk x:=by
  intro j hj;rcases Nat.lt_or_ge j i with h9|h9
  exact hM (.inr ⟨j,h9,hj⟩);rw [T.gone_untilM hj i h9] at hx;cases hx;exact hne rfl
 rw [I.h1 x (fun j c e h=>hown ⟨j,c,e,h⟩) hnm,<-l2 x (fun j c e _ _ h=>hown ⟨j,c,e,h⟩) hnm];exact hx
theorem Qbdm (T:DTr P ng ops r0 tm tr hp val kd anc) (I:Inv P ng ops r0 tm hp val kd g0 H0 w0 a0 listed p g H a w) {i:Nat} {pre:List Nat} {o:Oper} (hr:Rdy ops listed i o) (hk:kd i=.eff pre) {hm hm':Hp} (hst:Step P ng ops.toList o (tr i) hm (val i) hm') (hl:hm.heap.length=(hp i).heap.length)
  (h3: ∀x,Qb3 kd anc i x->hm.heap[x]? =some .gone) (h4: ∀x,¬Qb3 kd anc i x->hm.heap[x]? =(hp i).heap[x]?) (h5:(hp (i+1)).heap.length=hm'.heap.length)
  (h6: ∀x,Qb3 kd anc i x->(hp (i+1)).heap[x]? =(hp i).heap[x]?) (h7: ∀x,¬Qb3 kd anc i x->(hp (i+1)).heap[x]? =hm'.heap[x]?)
  {g':Inj} {u:Value} {w':World} (hv:VRel g' (val i) u) (hH':HRel ng g' hm'.heap w') (hE:Ext g hm.heap w g' hm'.heap w') (hr0:HRel ng g0 H0 w0) (hH0:H0.length=r0) (ht0:(tm 0).len<=a0.tmps.size):
  ∃H',Inv P ng ops r0 tm hp val kd g0 H0 w0 a0 (listed.setIfInBounds i true) (i+1) g' H' (a.put o.dst u) w':=by
 have hi:=Qc8 hr;have hil:i<listed.size:=by rw [I.lsz];exact hi
 obtain ⟨hpi,hnoeff,hlen,hmH⟩:=Qz5 T I hr hk h3 h4;obtain ⟨l1,l2⟩:=T.stable i hpi (by omega) hnoeff;have htouch:=hst.touch;have hHm:HRel ng g hm.heap w:=I.rel.weaken (by rw [hl,hlen,I.hlen]) hmH;obtain ⟨t1,t2⟩:=Qoq T I hr hE.sub hv ht0;have hMgone: ∀j x,kd j=.mk x->hm.heap[x]? =some .gone:=by
  intro j x hj;rcases Nat.lt_or_ge j i with h9|h9
  exact h3 x (.inr ⟨j,h9,hj⟩);by_cases hM:Qb3 kd anc i x;exact h3 x hM;rw [h4 x hM];exact T.gone_untilM hj i h9
 have hex: ∃H':List Blk,H'.length=hm'.heap.length/\(∀x,(∀j c e,kd j≠.fresh x c e)->(∀j,kd j≠.mk x)->H'[x]? =hm'.heap[x]?)/\(∀j x,kd j=.mk x->H'[x]? =H[x]?)/\
   (∀j x c e,kd j=.fresh x c e->(Ls listed j->H'[x]? =if j<i+1 then (hp (i+1)).heap[x]? else some (.cells c e))/\(¬Ls listed j->H'[x]? =some .gone)):=by
  have hr1: ∀j x c e,kd j=.fresh x c e->x<hm'.heap.length:=by
   intro j x c e hj;have:=T.gone_until hj 0 (Nat.zero_le _);have h9:=(List.getElem?_eq_some_iff.1 this).1;have:=T.len (i+1) hi;omega
  have hr2: ∀j x,kd j=.mk x->x<hm'.heap.length/\x<H.length:=by
   intro j x hj;have:=T.gone_untilM hj 0 (Nat.zero_le _);have h9:=(List.getElem?_eq_some_iff.1 this).1;have:=T.len (i+1) hi;have:=T.len p I.pn;rw [I.hlen];omega
  obtain ⟨H',k1,k2⟩:=Q53 hm'.heap.length (S:=fun x k=>((∀j c e,kd j≠.fresh x c e)->(∀j,kd j≠.mk x)->hm'.heap[x]? =some k)/\(∀j,kd j=.mk x->H[x]? =some k)/\
    ∀j c e,kd j=.fresh x c e->(Ls listed j->some k=if j<i+1 then (hp (i+1)).heap[x]? else some (.cells c e))/\(¬Ls listed j->k=.gone)) (by
   intro x hx;by_cases hown: ∃j c e,kd j=.fresh x c e;obtain ⟨j,c,e,hj⟩:=hown;have huq: ∀j' c' e',kd j'=.fresh x c' e'->j'=j/\c'=c/\e'=e:=by
    intro j' c' e' h;have:=T.uniq j' j _ _ _ _ _ h hj;subst this;rw [hj] at h;cases h;exact ⟨rfl,rfl,rfl⟩
   by_cases hlj:Ls listed j;have hx2:x<(hp (i+1)).heap.length:=by rw [h5];exact hx
   refine ⟨if j<i+1 then (hp (i+1)).heap[x] else .cells c e,fun h=>absurd hj (h j c e),fun j' h=>absurd hj (T.apart j' j x _ _ h),?_⟩;intro j' c' e' h;obtain ⟨rfl,rfl,rfl⟩:=huq j' c' e' h;refine ⟨fun _=> ?_,fun h=>absurd hlj h⟩;split;simp;rfl;refine ⟨.gone,fun h=>absurd hj (h j c e),fun j' h=>absurd hj (T.apart j' j x _ _ h),?_⟩;intro j' c' e' h;obtain ⟨rfl,rfl,rfl⟩:=huq j' c' e' h;exact ⟨fun h=>absurd h hlj,fun _=>rfl⟩;by_cases hmk: ∃j,kd j=.mk x;obtain ⟨j,hj⟩:=hmk;have hxH:=(hr2 j x hj).2;exact ⟨H[x],fun _ h=>absurd hj (h j),fun _ _=>by simp [hxH],fun j c e h=>absurd ⟨j,c,e,h⟩ hown⟩;exact ⟨hm'.heap[x],fun _ _=>by simp,fun j h=>absurd ⟨j,h⟩ hmk,fun j c e h=>absurd ⟨j,c,e,h⟩ hown⟩)
  refine ⟨H',k1,?_,?_,?_⟩;intro x hx hxm;rcases Nat.lt_or_ge x hm'.heap.length with h9|h9
  obtain ⟨k,q1,q2,_⟩:=k2 x h9;rw [q1,q2 hx hxm];rw [List.getElem?_eq_none h9,List.getElem?_eq_none (by rw [k1];exact h9)];intro j x hj;obtain ⟨k,q1,_,q2,_⟩:=k2 x (hr2 j x hj).1;rw [q1,q2 j hj];intro j x c e hj;obtain ⟨k,q1,_,_,q2⟩:=k2 x (hr1 j x c e hj);obtain ⟨q3,q4⟩:=q2 j c e hj;exact ⟨fun h=>by rw [q1,q3 h],fun h=>by rw [q1,q4 h]⟩
 obtain ⟨H',hH'l,hH'1,hH'3,hH'2⟩:=hex;have hr1: ∀j x c e,kd j=.fresh x c e->x<hm.heap.length:=by
  intro j x c e hj;have:=(List.getElem?_eq_some_iff.1 (T.gone_until hj 0 (Nat.zero_le _))).1;have:=T.len i (by omega);omega
 have hsplit: ∀(x:Nat) (k:Blk),H'[x]? =some k->k≠.gone->(hm'.heap[x]? =some k)\/(H[x]? =some k/\hm.heap[x]? =some .gone):=by
  intro x k hx hne;by_cases hown: ∃j c e,kd j=.fresh x c e;obtain ⟨j,c,e,hj⟩:=hown;by_cases hlj:Ls listed j;have h8:=(hH'2 j x c e hj).1 hlj;rw [h8] at hx;have hHx:=I.h2 j x c e hj hlj;split at hx;rename_i hji;have hji:j<i:=by
   rcases Nat.lt_or_ge j i with h9|h9;exact h9;have:j=i:=by omega
   subst this;rw [hk] at hj;cases hj
  by_cases hM:Qb3 kd anc i x;right;rw [h6 x hM] at hx;have:H[x]? =some k:=by
   rw [hHx];split;rw [<-l2 x (fun k c' e' h1 _ hk'=>by have:=T.uniq k j _ _ _ _ _ hk' hj;omega) (fun k hk'=>T.apart k j x _ _ hk' hj)];exact hx;rw [T.filled hj hji (by omega) (fun k h1 h2=>hnoeff k (by omega) h2)] at hx;exact hx
  exact ⟨this,h3 x hM⟩;left;rw [<-h7 x hM];exact hx;rename_i hji;right;have hij:i<=j:=by omega
  have hjp: ¬j<p:=by omega
  rw [if_neg hjp] at hHx;have hMn: ¬Qb3 kd anc i x:=by
   rintro (⟨j',c',e',h1,h2,_⟩|⟨j',h1,h2⟩);have:=T.uniq j' j _ _ _ _ _ h2 hj;omega;exact T.apart j' j x _ _ h2 hj
  exact ⟨by rw [hHx];exact hx,by rw [h4 x hMn];exact T.gone_until hj i hij⟩;rw [(hH'2 j x c e hj).2 hlj] at hx;cases hx;exact absurd rfl hne;by_cases hmk: ∃j,kd j=.mk x;obtain ⟨j,hj⟩:=hmk;right;rw [hH'3 j x hj] at hx;exact ⟨hx,hMgone j x hj⟩;left;rw [<-hH'1 x (fun j c e h=>hown ⟨j,c,e,h⟩) (fun j h=>hmk ⟨j,h⟩)];exact hx
 have locOf: ∀x L,g' x=some L->hm.heap[x]? =some .gone-> ∃N,g x=some N:=by
  intro x L hx hg;cases hgx:g x with
  |some N=>exact ⟨N,rfl⟩
  |none=>
   have h1:=(hE.new x L hx hgx).1;have h2:=(List.getElem?_eq_some_iff.1 hg).1;omega
 have hliveM: ∀x,Live hm.heap x->Live H x:=fun x ⟨k,hk,hne⟩=>⟨k,hmH x k hk hne,hne⟩;have hfrB: ∀(x:Nat) (L:Loc) (k:Blk),H[x]? =some k->k≠.gone->hm.heap[x]? =some .gone->g x=some L->w'.heap[L.blk]? =w.heap[L.blk]?:=by
  intro x L k hx hne hg hL;refine hE.frame L.blk (I.rel.dom x L hL).2 ?_;intro y M hM hly he;have:=I.rel.inj y x M L hM hL he (hliveM y hly) ⟨k,hx,hne⟩;subst this;exact Qg6 hg hly
 have hrel':HRel ng g' H' w':=by
  refine ⟨fun x L hx=>by rw [hH'l];exact hH'.dom x L hx,?_,?_,hH'.glob,hH'.sig,?_⟩
  rotate_left 2
  constructor;intro i X hi hl;refine ⟨(hH'.frz.row i X hi hl).1,?_⟩;rintro x L hx ⟨k,hk,hne⟩;rcases hsplit x k hk hne with ha|⟨hb1,hb2⟩
  exact (hH'.frz.row i X hi hl).2 x L hx ⟨k,ha,hne⟩;obtain ⟨N,hN⟩:=locOf x L hx hb2;have:=hE.sub x N hN;rw [this] at hx;cases hx;exact (I.rel.frz.row i X (by rw [<-hE.sub.sig];exact hi) hl).2 x _ hN ⟨k,hb1,hne⟩
  ·intro i X hi
   refine ⟨by rw [hH'l];exact (hH'.frz.mp i X hi).1,(hH'.frz.mp i X hi).2.1,?_⟩;rintro x L hx ⟨k,hk,hne⟩ he;rcases hsplit x k hk hne with ha|⟨hb1,hb2⟩
   exact (hH'.frz.mp i X hi).2.2 x L hx ⟨k,ha,hne⟩ he;obtain ⟨N,hN⟩:=locOf x L hx hb2;have:=hE.sub x N hN;rw [this] at hx;cases hx;cases hm:g.mp i with
   |some Y=>
    have:=hE.sub.mp i Y hm;rw [this] at hi;cases hi;exact (I.rel.frz.mp i _ hm).2.2 x _ hN ⟨k,hb1,hne⟩ he
   |none=>
    obtain ⟨_,hb⟩:=hE.newm i X hi hm;rcases hb with hb|⟨j,M,hj,hM,lj⟩;have:=(I.rel.dom x _ hN).2;omega;have:=I.rel.inj x j _ M hN hj (he.trans hM.symm) ⟨k,hb1,hne⟩ (hliveM j lj);subst this;exact Qg6 hb2 lj
  exact hH'.frz.top;intro x y L M hx hy hb ⟨k,hkx,hnx⟩ ⟨k',hky,hny⟩;have mixed: ∀(x y:Nat) (L M:Loc) (k k':Blk),g' x=some L->g' y=some M->L.blk=M.blk->hm'.heap[x]? =some k->k≠.gone->H[y]? =some k'->k'≠.gone->hm.heap[y]? =some .gone->(∃N,g y=some N)->False:=by
   intro x y L M k k' hx hy hb hkx hnx hky hny hgy ⟨N,hN⟩;have:M=N:=by have:=hE.sub y N hN;rw [this] at hy;exact (Option.some.inj hy).symm
   subst this;cases hgx:g x with
   |some L0=>
    have:L=L0:=by have:=hE.sub x L0 hgx;rw [this] at hx;exact (Option.some.inj hx).symm
    subst this;have hlx:=hE.live x (hHm.dom x _ hgx).1 ⟨k,hkx,hnx⟩;have:=I.rel.inj x y L M hgx hN hb (hliveM x hlx) ⟨k',hky,hny⟩;subst this;exact Qg6 hgy hlx
   |none=>
    obtain ⟨_,hnew⟩:=hE.new x L hx hgx;rcases hnew with hnew|⟨z,N',hz,hzb,hzl⟩;have:=(I.rel.dom y M hN).2;omega;have:=I.rel.inj z y N' M hz hN (hzb.trans hb) (hliveM z hzl) ⟨k',hky,hny⟩;subst this;exact Qg6 hgy hzl
  rcases hsplit x k hkx hnx with ha|⟨hb1,hb2⟩;rcases hsplit y k' hky hny with ha'|⟨hb1',hb2'⟩;exact hH'.inj x y L M hx hy hb ⟨k,ha,hnx⟩ ⟨k',ha',hny⟩;exact (mixed x y L M k k' hx hy hb ha hnx hb1' hny hb2' (locOf y M hy hb2')).elim;rcases hsplit y k' hky hny with ha'|⟨hb1',hb2'⟩;exact (mixed y x M L k' k hy hx hb.symm ha' hny hb1 hnx hb2 (locOf x L hx hb2)).elim;obtain ⟨N,hN⟩:=locOf x L hx hb2;obtain ⟨N',hN'⟩:=locOf y M hy hb2';have e1:L=N:=by have:=hE.sub x N hN;rw [this] at hx;exact (Option.some.inj hx).symm
  have e2:M=N':=by have:=hE.sub y N' hN';rw [this] at hy;exact (Option.some.inj hy).symm
  subst e1;subst e2;exact I.rel.inj x y L M hN hN' hb ⟨k,hb1,hnx⟩ ⟨k',hb1',hny⟩;intro x k hx hne;rcases hsplit x k hx hne with ha|⟨hb1,hb2⟩
  exact hH'.blk0 x k ha hne;rcases I.rel.blk0 x k hb1 hne with hz|⟨L,hL,hB⟩
  exact .inl (hz.mono hE.sub.sig);exact .inr ⟨L,hE.sub x L hL,(hB.of_same (hfrB x L k hb1 hne hb2 hL)).mono hE.sub⟩
 refine ⟨H',by simp [I.lsz],Qlu I hr,hi,?_,?_,by rw [hH'l,h5],?_,?_,?_,?_,hrel',?_,?_,?_,t1,t2⟩;exact .inr ⟨by omega,by simp only [Nat.add_sub_cancel,hk];trivial,(Q3 listed i _ hil).2 (.inl (by omega))⟩;intro j hj he hlj;rw [Q3 listed i _ hil] at hlj;rcases hlj with rfl|hlj
 omega;exact I.ph j (by omega) he hlj;intro x hx hxm;have hMn: ¬Qb3 kd anc i x:=by
  rintro (⟨j,c,e,_,h,_⟩|⟨j,_,h⟩);exact hx j c e h;exact hxm j h
 rw [hH'1 x hx hxm,h7 x hMn]
 ·intro j x hj
  rw [hH'3 j x hj,Qjg hil (by rw [hk];intro d k v h;cases h),Q3 listed i _ hil];have hji:j≠i:=fun h=>by rw [h,hk] at hj;cases hj
  obtain ⟨k1,k2⟩:=I.h4 j x hj;refine ⟨fun h=>k1 (h.resolve_left hji),fun h=> ?_⟩;obtain ⟨q1,q2⟩:=k2 (fun h'=>h (.inr h'));refine ⟨q1,?_⟩;cases hg:g' x with
  |none=>rfl
  |some L=>
   have:=(hE.new x L hg q2).1;have:=(List.getElem?_eq_some_iff.1 (hMgone j x hj)).1;omega
 intro j x c e hj hlj;rw [Q3 listed i _ hil] at hlj;have hji:j≠i:=fun h=>by rw [h,hk] at hj;cases hj
 have hlj:Ls listed j:=by rcases hlj with h|h;exact absurd h hji;exact h
 exact (hH'2 j x c e hj).1 hlj
 ·intro j x c e hj hlj
  rw [Q3 listed i _ hil] at hlj;have hlj: ¬Ls listed j:=fun h=>hlj (.inr h);refine ⟨(hH'2 j x c e hj).2 hlj,?_⟩;cases hg:g' x with
  |none=>rfl
  |some L=>
   have:=(hE.new x L hg (I.h3 j x c e hj hlj).2).1;have:=hr1 j x c e hj;omega
 have E1:Ext g0 H0 w0 g hm.heap w:=I.ext.weaken (by rw [hl];have:=I.ext.len;rw [I.hlen] at this;omega) (fun x _ h=>hliveM x h);refine (E1.trans hr0 hE).weaken (by rw [hH'l];have:=E1.len;have:=htouch.len;omega) ?_;intro x hx ⟨k,hkx,hne⟩;have hno: ∀j c e,kd j≠.fresh x c e:=by
  intro j c e hj;have hjn:j<ops.size:=T.lt (by rw [hj];simp);have hsj:=T.step j _ (by simp [hjn]:ops[j]? =some ops[j]);rw [hj] at hsj;have:=hsj.2.2.1;omega
 have hnm: ∀j,kd j≠.mk x:=by
  intro j hj;have hjn:j<ops.size:=T.lt (by rw [hj];simp);have hsj:=T.step j _ (by simp [hjn]:ops[j]? =some ops[j]);rw [hj] at hsj;have:=hsj.2.2.2.1;omega
 exact ⟨k,by rw [<-hH'1 x hno hnm];exact hkx,hne⟩;rw [<-I.asz];cases o.dst<;>simp [Act.put];rw [<-I.adf];cases o.dst<;>rfl
theorem Qbdp (T:DTr P ng ops r0 tm tr hp val kd anc) (I:Inv P ng ops r0 tm hp val kd g0 H0 w0 a0 listed p g H a w) {i x:Nat} {o:Oper} (hr:Rdy ops listed i o) (hk:kd i=.mk x) (hval:val i=.map x)
  (hH0:H0.length=r0) (ht0:(tm 0).len<=a0.tmps.size):
  ∃g' H',Inv P ng ops r0 tm hp val kd g0 H0 w0 a0 (listed.setIfInBounds i true) p g' H' (a.put o.dst (.map (some w.heap.size))) (w.alloc (.map #[] 0)):=by
 have hil:i<listed.size:=by rw [I.lsz];exact Qc8 hr
 obtain ⟨hHx,hgx⟩:=(I.h4 i x hk).2 hr.no;have hs:=T.step i o hr.op;rw [hk] at hs;obtain ⟨_,_,_,hx0,hx1,_⟩:=hs;have hxl:x<H.length:=(List.getElem?_eq_some_iff.1 hHx).1;have hng:ng.n<=x:=by
  rcases Nat.lt_or_ge x ng.n with h9|h9;obtain ⟨L,hL,_⟩:=I.rel.glob x h9;rw [hgx] at hL;cases hL;exact h9
 have hal:=HRel.allocK I.rel (w0:=w) (H':=H.set x (.map [])) (k:=.map []) (O:=.map #[] 0) (n:=0) hgx hng rfl rfl rfl rfl (by simp [hxl]) (fun j hj=>List.getElem?_set_ne (Ne.symm hj)) (by simp)
  (.inr (Qg6 hHx)) (fun hnew=>⟨_,_,[],hnew,by simp,.nil,by simp,by simp⟩)
 have hsub:=Qe0 (⟨w.heap.size,0,0⟩:Loc) hgx;have hv:VRel (upd g x ⟨w.heap.size,0,0⟩) (val i) (.map (some w.heap.size)):=by rw [hval];exact .map _ _ (Q4 _ _ _)
 obtain ⟨t1,t2⟩:=Qoq T I hr hsub hv ht0;have hni: ∀y d k v,kd i≠.ins y d k v:=by rw [hk];intro y d k v h;cases h
 refine ⟨upd g x ⟨w.heap.size,0,0⟩,H.set x (.map []),by simp [I.lsz],Qlu I hr,I.pn,?_,?_,by simp [I.hlen],?_,?_,?_,?_,hal.1,?_,?_,?_,t1,t2⟩;rcases I.pl with h|⟨h,h',h''⟩
 exact .inl h;exact .inr ⟨h,h',(Q3 listed i _ hil).2 (.inr h'')⟩;intro j hj he hl;rw [Q3 listed i _ hil] at hl;rcases hl with rfl|hl
 rw [hk] at he;exact he;exact I.ph j hj he hl;intro y hy hym;have hxy:x≠y:=fun he=>hym i (by rw [hk,he]);rw [List.getElem?_set_ne hxy];exact I.h1 y hy hym;intro j y hj;rw [Qjg hil (hni y),Q3 listed i _ hil];by_cases hxy:x=y;subst hxy;have hji:=T.uniqM j i x hj hk;subst hji;refine ⟨fun _=>⟨[],by simp [hxl],?_⟩,fun h=>absurd (.inl rfl) h⟩;have:ents kd listed x ops.size=[]:=by
  rw [List.eq_nil_iff_forall_not_mem];intro q hq;obtain ⟨i',d,h1,h2,h3⟩:=Qjf _ hq;obtain ⟨j',h4,h5⟩:=T.insM i' x d _ _ h3;have:=T.uniqM j' j x h4 hj;subst this;exact hr.no (Qg2 T I.down i' h2 _ h5)
 rw [this];rw [List.getElem?_set_ne hxy,Qy g _ (Ne.symm hxy)];have hji:j≠i:=fun h=>by rw [h,hk] at hj;cases hj;exact hxy rfl
 obtain ⟨k1,k2⟩:=I.h4 j y hj;exact ⟨fun h=>k1 (h.resolve_left hji),fun h=>k2 (fun h'=>h (.inr h'))⟩;intro j y c' e' hj hl;rw [Q3 listed i _ hil] at hl;have hji:j≠i:=fun h=>by rw [h,hk] at hj;cases hj
 have hxy:x≠y:=fun he=>by subst he;exact T.apart i j x _ _ hk hj
 rw [List.getElem?_set_ne hxy];exact I.h2 j y c' e' hj (hl.resolve_left hji);intro j y c' e' hj hl;rw [Q3 listed i _ hil] at hl;have hxy:x≠y:=fun he=>by subst he;exact T.apart i j x _ _ hk hj
 obtain ⟨k1,k2⟩:=I.h3 j y c' e' hj (fun h=>hl (.inr h));exact ⟨by rw [List.getElem?_set_ne hxy];exact k1,by rw [Qy g _ (Ne.symm hxy)];exact k2⟩;have E:=I.ext;have hold: ∀b,b<w.heap.size->(w.alloc (.map #[] 0)).heap[b]? =w.heap[b]?:=by
  intro b hb;exact heap_alloc_old w _ hb
 have hsz:(w.alloc (.map #[] 0)).heap.size=w.heap.size+1:=Array.size_push ..;constructor;exact E.sub.trans hsub;intro j L hj hn;by_cases hjx:j=x;subst hjx;rw [Q4] at hj;cases hj;exact ⟨by rw [hH0];exact hx0,.inl E.size⟩;rw [Qy g _ hjx] at hj;exact E.new j L hj hn;exact E.newm;simpa using E.len;intro j hj hl;have hjx:x≠j:=by omega
 refine E.live j hj ?_;unfold Live at hl⊢;rw [List.getElem?_set_ne hjx] at hl;exact hl;rw [hsz];have:=E.size;omega;intro b hb hno;rw [hold b (Nat.lt_of_lt_of_le hb E.size)];exact E.frame b hb hno;exact E.os;exact E.tape;exact E.output;rw [<-I.asz];cases o.dst<;>simp [Act.put];rw [<-I.adf];cases o.dst<;>rfl
theorem Qbdj (T:DTr P ng ops r0 tm tr hp val kd anc) (I:Inv P ng ops r0 tm hp val kd g0 H0 w0 a0 listed p g H a w) {i x:Nat} {d:TypeDesc} {k v:AVal} {o:Oper} (hr:Rdy ops listed i o) (hk:kd i=.ins x d k v):
  ∃l,H[x]? =some (.map l)/\l.Perm (ents kd listed x ops.size)/\Step P ng ops.toList o (tr i) ⟨H,[]⟩ Qcm ⟨H.set x (.map (l++[(k,v)])),[x]⟩:=by
 obtain ⟨j,hj,ha⟩:=T.insM i x d k v hk;obtain ⟨l,h1,h2⟩:=(I.h4 j x hj).1 (Qko T I hr ha);refine ⟨l,h1,h2,?_⟩;have hs:=T.step i o hr.op;rw [hk] at hs;obtain ⟨hw,⟨ty,m,k',v',kt,vt,u,e1,e2,e3,e4,e5,e6,e7⟩,_,_⟩:=hs;refine .eff _ _ hw ?_;have hf:Qfa d k l=some none:=Q0z fun q hq=>by
  obtain ⟨i',d',q1,q2,q3⟩:=Qjf _ (h2.mem_iff.1 hq);exact T.keys i i' x d k v d' q.1 q.2 (fun e=>hr.no (e▸q2)) hk q3
 rw [e1];simp only [effA,e4,e5,e6,Qh5,e2,e3,e7,h1,hf]
theorem Qbdo (T:DTr P ng ops r0 tm tr hp val kd anc) (I:Inv P ng ops r0 tm hp val kd g0 H0 w0 a0 listed p g H a w) {i x:Nat} {d:TypeDesc} {k v:AVal} {o:Oper} (hr:Rdy ops listed i o) (hk:kd i=.ins x d k v)
  {l:List (AVal×AVal)} (hl:H[x]? =some (.map l)) (hpm:l.Perm (ents kd listed x ops.size))
  {g':Inj} {u:Value} {w':World} (hv:VRel g' (val i) u) (hH':HRel ng g' (H.set x (.map (l++[(k,v)]))) w') (hE:Ext g H w g' (H.set x (.map (l++[(k,v)]))) w') (hr0:HRel ng g0 H0 w0) (ht0:(tm 0).len<=a0.tmps.size):
  Inv P ng ops r0 tm hp val kd g0 H0 w0 a0 (listed.setIfInBounds i true) p g' (H.set x (.map (l++[(k,v)]))) (a.put o.dst u) w':=by
 have hil:i<listed.size:=by rw [I.lsz];exact Qc8 hr
 have hin:i<ops.size:=Qc8 hr;have hxl:x<H.length:=(List.getElem?_eq_some_iff.1 hl).1;obtain ⟨j0,hj0,ha0⟩:=T.insM i x d k v hk;have hlj0:=Qko T I hr ha0;obtain ⟨t1,t2⟩:=Qoq T I hr hE.sub hv ht0;refine ⟨by simp [I.lsz],Qlu I hr,I.pn,?_,?_,by simp [I.hlen],?_,?_,?_,?_,hH',Ext.trans hr0 I.ext hE,?_,?_,t1,t2⟩;rcases I.pl with h|⟨h,h',h''⟩
 exact .inl h;exact .inr ⟨h,h',(Q3 listed i _ hil).2 (.inr h'')⟩;intro j hj he hl;rw [Q3 listed i _ hil] at hl;rcases hl with rfl|hl
 rw [hk] at he;exact he;exact I.ph j hj he hl;intro y hy hym;have hxy:x≠y:=fun he=>hym j0 (by rw [hj0,he]);rw [List.getElem?_set_ne hxy];exact I.h1 y hy hym
 ·intro j y hj
  rw [Q3 listed i _ hil];by_cases hxy:x=y;subst hxy;have hjj:=T.uniqM j j0 x hj hj0;subst hjj;exact ⟨fun _=>⟨l++[(k,v)],by simp [hxl],(hpm.append_right _).trans (Q0m hil hk hr.no _ hin)⟩,fun h=>absurd (.inr hlj0) h⟩;rw [List.getElem?_set_ne hxy,Qjg hil (by rw [hk];intro d k v h;cases h;exact hxy rfl)];have hji:j≠i:=fun h=>by rw [h,hk] at hj;cases hj
  obtain ⟨k1,k2⟩:=I.h4 j y hj;refine ⟨fun h=>k1 (h.resolve_left hji),fun h=> ?_⟩;obtain ⟨q1,q2⟩:=k2 (fun h'=>h (.inr h'));refine ⟨q1,?_⟩;cases hg:g' y with
  |none=>rfl
  |some L=>
   have:=(hE.new y L hg q2).1;have h9:=(List.getElem?_eq_some_iff.1 q1).1;omega
 intro j y c' e' hj hl;rw [Q3 listed i _ hil] at hl;have hji:j≠i:=fun h=>by rw [h,hk] at hj;cases hj
 have hxy:x≠y:=fun he=>by subst he;exact T.apart j0 j x _ _ hj0 hj
 rw [List.getElem?_set_ne hxy];exact I.h2 j y c' e' hj (hl.resolve_left hji)
 ·intro j y c' e' hj hl
  rw [Q3 listed i _ hil] at hl;have hxy:x≠y:=fun he=>by subst he;exact T.apart j0 j x _ _ hj0 hj
  obtain ⟨k1,k2⟩:=I.h3 j y c' e' hj (fun h=>hl (.inr h));refine ⟨by rw [List.getElem?_set_ne hxy];exact k1,?_⟩;cases hg:g' y with
  |none=>rfl
  |some L=>
   have:=(hE.new y L hg k2).1;have h9:=(List.getElem?_eq_some_iff.1 k1).1;omega
 rw [<-I.asz];cases o.dst<;>simp [Act.put];rw [<-I.adf];cases o.dst<;>rfl
theorem Qbbt (T:DTr P ng ops r0 tm tr hp val kd anc) (hall: ∀i,i<ops.size->Ls listed i) {j x:Nat} (hj:kd j=.mk x): ∀i,j+1<=i->(i<=ops.size->(hp i).heap[x]? =some (.map (ents kd listed x i))):=by
 have hjn:j<ops.size:=T.lt (by rw [hj];simp);refine Qqr ?_ ?_;intro _;have hs:=T.step j _ (by simp [hjn]:ops[j]? =some ops[j]);have hg:=T.gone_untilM hj j (Nat.le_refl _);have hxl:=(List.getElem?_eq_some_iff.1 hg).1;rw [hj] at hs;rw [hs.2.2.2.2.2];have:ents kd listed x (j+1)=[]:=by
  rw [List.eq_nil_iff_forall_not_mem];intro q hq;obtain ⟨i',d,h1,h2,h3⟩:=Qjf _ hq;obtain ⟨j',h4,h5⟩:=T.insM i' x d _ _ h3;have:=T.uniqM j' j x h4 hj;subst this;have:=T.anc_lt i' _ h5;omega
 rw [this];simp [hxl];intro i hji ih hi;have ih:=ih (by omega);have ho:ops[i]? =some ops[i]:=by simp [show i<ops.size by omega]
 have hs:=T.step i _ ho;simp only [ents];cases hk:kd i with
 |lite=>rw [hk] at hs;rw [hs.1];exact ih
 |load b=>rw [hk] at hs;rw [hs.1];exact ih
 |fresh y c' e'=>
  rw [hk] at hs;rw [hs.2.2.2.2];have hxy:y≠x:=fun he=>by subst he;exact T.apart j i y _ _ hj hk
  simp only [List.getElem?_set_ne hxy];exact ih
 |mk y=>
  rw [hk] at hs;rw [hs.2.2.2.2.2];have hxy:y≠x:=fun he=>by subst he;have:=T.uniqM i j y hk hj;omega
  simp only [List.getElem?_set_ne hxy];exact ih
 |ins y d k v=>
  have hxl:=(List.getElem?_eq_some_iff.1 ih).1;rw [hk] at hs;obtain ⟨_,_,_,l,hl,h⟩:=hs;rw [h];by_cases hxy:y=x;subst hxy;rw [ih] at hl;cases hl;have:listed.getD i false=true:=hall i (by omega);simp only [this,and_self,if_true];simp [hxl];simp only [List.getElem?_set_ne hxy,hxy,false_and,if_false];exact ih
 |eff pre=>
  rw [hk] at hs;obtain ⟨hm,hm',h1,h2,h3,h4,h5,h6,h7,h8⟩:=hs;rw [h6 x (.inr ⟨j,by omega,hj⟩)];exact ih
theorem Qbdl (T:DTr P ng ops r0 tm tr hp val kd anc) (I:Inv P ng ops r0 tm hp val kd g0 H0 w0 a0 listed p g H a w) (hall: ∀i,i<ops.size->Ls listed i):
  HRel ng g (hp ops.size).heap w/\Ext g0 H0 w0 g (hp ops.size).heap w/\TRel g (tm ops.size) a\/ ¬(tm 0).len<=a0.tmps.size:=by
 by_cases ht0:(tm 0).len<=a0.tmps.size;left;have hno: ∀j,p<=j->j<ops.size-> ¬(kd j).isEff:=fun j h1 h2 he=>I.ph j h1 he (hall j h2);obtain ⟨l1,l2⟩:=T.stable ops.size I.pn (Nat.le_refl _) hno;have hsame: ∀x,(∀j,kd j≠.mk x)->(hp ops.size).heap[x]? =H[x]?:=by
  intro x hxm;by_cases hown: ∃j c e,kd j=.fresh x c e;obtain ⟨j,c,e,hj⟩:=hown;have hjn:j<ops.size:=T.lt (by rw [hj];simp);rw [I.h2 j x c e hj (hall j hjn)];split;exact (l2 x (fun k c' e' h1 _ hk'=>by have:=T.uniq k j _ _ _ _ _ hk' hj;omega) hxm);exact (T.filled hj hjn (Nat.le_refl _) (fun k h1 h2=>hno k (by omega) h2));rw [I.h1 x (fun j c e h=>hown ⟨j,c,e,h⟩) hxm];exact (l2 x (fun j c e _ _ h=>hown ⟨j,c,e,h⟩) hxm)
 have hmap: ∀j x,kd j=.mk x-> ∃l l',H[x]? =some (.map l)/\(hp ops.size).heap[x]? =some (.map l')/\l.Perm l':=by
  intro j x hj;have hjn:j<ops.size:=T.lt (by rw [hj];simp);obtain ⟨l,h1,h2⟩:=(I.h4 j x hj).1 (hall j hjn);exact ⟨l,_,h1,Qbbt T hall hj ops.size hjn (Nat.le_refl _),h2⟩
 have hlen:H.length=(hp ops.size).heap.length:=by rw [I.hlen,l1]
 have hback: ∀(x:Nat) (k':Blk),(hp ops.size).heap[x]? =some k'->k'≠.gone-> ∃k,H[x]? =some k/\k≠.gone/\(∀L,BRel g w k L->BRel g w k' L)/\(Qce g k->Qce g k'):=by
  intro x k' hk' hne;by_cases hmk: ∃j,kd j=.mk x;obtain ⟨j,hj⟩:=hmk;obtain ⟨l,l',h1,h2,h3⟩:=hmap j x hj;rw [h2] at hk';cases hk';exact ⟨_,h1,by simp,fun L h=>h.perm h3,fun h=>by obtain ⟨_,_,_,_,h,_⟩:=h;cases h⟩;rw [hsame x (fun j h=>hmk ⟨j,h⟩)] at hk';exact ⟨k',hk',hne,fun _ h=>h,fun h=>h⟩
 refine ⟨I.rel.relax (Nat.le_of_eq hlen) hback,I.ext.relax (Nat.le_of_eq hlen) fun j ⟨k',hk',hne⟩=>let ⟨k,h1,h2,_⟩:=hback j k' hk' hne;⟨k,h1,h2⟩,?_⟩;obtain ⟨k1,k2,k3⟩:=Qyb T ops.size (Nat.le_refl _);refine ⟨by rw [k1,I.asz];exact ht0,?_⟩;intro d v hd;by_cases hw: ∃(j:Nat) (y:Oper),ops[j]? =some y/\y.dst=some d;obtain ⟨j,y,hy,hyd⟩:=hw;have hjn:j<ops.size:=(Array.getElem?_eq_some_iff.1 hy).1;have hlt:d<(tm 0).len:=by rw [<-k1];exact Tm.get_lt hd
 rw [k3 j y d v hjn hy hyd hd];exact I.t1 j y d hy hyd (hall j hjn) hlt;exact I.t2 d v (fun j y hy _ hyd=>hw ⟨j,y,hy,hyd⟩) (k2 d v (fun j y _ hy hyd=>hw ⟨j,y,hy,hyd⟩) hd);exact .inr ht0
end
section
variable {P : Program} {ng : Cx} {ops : Array Oper} {r0 : Nat} {tm tr : Nat -> Tm} {hp : Nat -> Hp} {val : Nat -> AVal} {kd : Nat -> DK} {anc : Nat -> Nat -> Prop}
variable {g0 : Inj} {H0 : List Blk} {w0 : World} {a0 : Act}
def left (n:Nat) (listed:Array Bool):Nat:=(List.range n).countP fun i=> !listed.getD i false
theorem Q2b {n i:Nat} {listed:Array Bool} (hi:i<n) (hl:listed.size=n) (hn: ¬Ls listed i):left n (listed.setIfInBounds i true)+1=left n listed:=by
 unfold left;have key: ∀(l:List Nat),l.Nodup->(i∈l->(l.countP fun j=> !(listed.setIfInBounds i true).getD j false)+1=l.countP fun j=> !listed.getD j false)/\
   (i∉l->(l.countP fun j=> !(listed.setIfInBounds i true).getD j false)=l.countP fun j=> !listed.getD j false):=by
  intro l;induction l with
  |nil=>intro _;exact ⟨(fun h=>by cases h),(fun _=>rfl)⟩
  |cons j l ih=>
   intro hnd;obtain ⟨h1,h2⟩:=List.nodup_cons.1 hnd;obtain ⟨ih1,ih2⟩:=ih h2;have hil:i<listed.size:=by omega
   constructor;intro hm;by_cases hji:j=i;subst hji;have e:=ih2 h1;simp only [List.countP_cons,e];have:listed.getD j false=false:=by simpa [Ls] using hn
   simp [hil] at this⊢;simp [this];have hm':i∈l:=by rcases List.mem_cons.1 hm with h|h;exact absurd h.symm hji;exact h
   have e:=ih1 hm';simp only [List.countP_cons];have:(listed.setIfInBounds i true).getD j false=listed.getD j false:=by
    simp [Array.getElem?_setIfInBounds_ne (Ne.symm hji)]
   rw [this];omega;intro hm;have hji:j≠i:=fun h=>hm (by simp [h]);have e:=ih2 (fun h=>hm (List.mem_cons_of_mem _ h));simp only [List.countP_cons,e];have:(listed.setIfInBounds i true).getD j false=listed.getD j false:=by
    simp [Array.getElem?_setIfInBounds_ne (Ne.symm hji)]
   rw [this]
 exact (key (List.range n) List.nodup_range).1 (List.mem_range.2 hi)
theorem Qbbv {r:Option Nat} (T:DTr P ng ops r0 tm tr hp val kd anc) (hr0:HRel ng g0 H0 w0) (hH0:H0.length=r0) (ht0:(tm 0).len<=a0.tmps.size) {Q:Exit->Act->World->Prop}
  (hQ: ∀g a w,HRel ng g (hp ops.size).heap w->Ext g0 H0 w0 g (hp ops.size).heap w->TRel g (tm ops.size) a->a.tmps.size=a0.tmps.size->a.defers=a0.defers->Q .normal a w):
  ∀(fuel:Nat) (listed:Array Bool) (p:Nat) (g:Inj) (H:List Blk) (a:Act) (w:World),Inv P ng ops r0 tm hp val kd g0 H0 w0 a0 listed p g H a w->left ops.size listed=fuel->
  wpAnyIn (FR r) 0 P .any ops Q fuel listed a w:=by
 have fin: ∀(listed:Array Bool) (p:Nat) (g:Inj) (H:List Blk) (a:Act) (w:World),Inv P ng ops r0 tm hp val kd g0 H0 w0 a0 listed p g H a w->(∀i,i<ops.size->Ls listed i)->Q .normal a w:=by
  intro listed p g H a w I hall;rcases Qbdl T I hall with ⟨h1,h1',h2⟩|h
  exact hQ g a w h1 h1' h2 I.asz I.adf;exact absurd ht0 h
 intro fuel;induction fuel with
 |zero=>
  intro listed p g H a w I hf;have hall: ∀i,i<ops.size->Ls listed i:=by
   intro i hi;unfold left at hf;rw [List.countP_eq_zero] at hf;have:=hf i (List.mem_range.2 hi);simpa [Ls] using this
  refine ⟨?_,fin listed p g H a w I hall⟩;rw [List.eq_nil_iff_forall_not_mem];intro i hi;obtain ⟨o,hr⟩:=Qif I.lsz hi;exact hr.no (hall i (Qc8 hr))
 |succ fuel ih=>
  intro listed p g H a w I hf;refine ⟨fun h=>fin listed p g H a w I (Qblc T I.lsz h),?_⟩;intro i hi;obtain ⟨o,hr⟩:=Qif I.lsz hi;have hleft:left ops.size (listed.setIfInBounds i true)=fuel:=by
   have:=Q2b (Qc8 hr) I.lsz hr.no;omega
  have key:if Region.wanted o (yielded ops a.tmps) then o.wpIn (FR r) 0 P a w (wpAnyIn (FR r) 0 P .any ops Q fuel (listed.setIfInBounds i true)) Q else (∀f,o.about P w a.eval=some f->(FR r).fn f)/\wpAnyIn (FR r) 0 P .any ops Q fuel (listed.setIfInBounds i true) (a.put o.dst undef) w:=by
   have hT:=Q7z T I ht0 hr;have hs:=T.step i o hr.op;cases hk:kd i with
   |lite=>
    rw [hk] at hs;have hst:Step P ng ops.toList o (tr i) ⟨H,[]⟩ (val i) ⟨H,[]⟩:=by
     rcases hs.2 with ⟨h1,h2⟩|⟨h1,h2⟩;rw [h2];exact .skip h1;exact .pure _ h1 h2
    exact hst.wp (hp:=⟨H,[]⟩) I.rel hT fun g' u w' hv hH' hE=>
     ih _ p g' H _ w' (Q1y T I hr (by rw [hk];exact id) (fun x c e h=>by rw [hk] at h;cases h) (fun x h=>by rw [hk] at h;cases h) (fun x d k v h=>by rw [hk] at h;cases h) hv hH' hE hr0 ht0) hleft
   |load b=>
    rw [hk] at hs;have hst:Step P ng ops.toList o (tr i) ⟨H,[]⟩ (val i) ⟨H,[]⟩:=.load _ b hs.2.1 (Qbjc T I hr hk ht0);exact hst.wp (hp:=⟨H,[]⟩) I.rel hT fun g' u w' hv hH' hE=>
     ih _ p g' H _ w' (Q1y T I hr (by rw [hk];exact id) (fun x c e h=>by rw [hk] at h;cases h) (fun x h=>by rw [hk] at h;cases h) (fun x d k v h=>by rw [hk] at h;cases h) hv hH' hE hr0 ht0) hleft
   |fresh x c e=>
    rw [hk] at hs;obtain ⟨hw,⟨m,hm,hval⟩,_⟩:=hs;have hρ:ERel g ng (tr i) a.eval:=⟨fun y v hv=>hT.eval I.rel.sig I.rel.glob hv,I.rel.sig⟩;obtain ⟨u,C,fr,w1,hF⟩:=Q1e (P:=P) (g:=g) (w:=w) hρ hm;rw [Qdq I.rel.sig hw hT,if_pos rfl];refine ⟨fun _ _=>trivial,?_⟩;rw [Oper.semAt_eq _ _ _ (Q1f hm),hF.run];obtain ⟨g',H',I'⟩:=Qbdn T I hr hk hval hF hH0 ht0;exact ih _ p g' H' _ _ I' hleft
   |mk x=>
    rw [hk] at hs;obtain ⟨hw,⟨ty,hop⟩,hval,_⟩:=hs;have h1':(execOp a.eval o).run P w=.ok (.value (.map (some w.heap.size))) (w.alloc (.map #[] 0)):=by
     obtain ⟨dst,op,type,pos,after,guard⟩:=o;simp only at hop;subst hop;rfl
    rw [Qdq I.rel.sig hw hT,if_pos rfl];refine ⟨fun _ _=>trivial,?_⟩;rw [Oper.semAt_eq _ _ _ (by intro c';rw [hop];intro h;cases h),h1'];obtain ⟨g',H',I'⟩:=Qbdp T I hr hk hval hH0 ht0;exact ih _ p g' H' _ _ I' hleft
   |ins x d k v=>
    rw [hk] at hs;obtain ⟨l,hl,hp',hst⟩:=Qbdj T I hr hk;refine hst.wp (hp:=⟨H,[]⟩) I.rel hT fun g' u w' hv hH' hE=> ?_;exact ih _ p g' _ _ w' (Qbdo T I hr hk hl hp' (by rw [hs.2.2.1];exact hv) hH' hE hr0 ht0) hleft
   |eff pre=>
    rw [hk] at hs;obtain ⟨hm,hm',h1,h2,h3,h4,h5,h6,h7,_⟩:=hs;obtain ⟨_,_,hlen,hmH⟩:=Qz5 T I hr hk h3 h4;have hHm:HRel ng g hm.heap w:=I.rel.weaken (by rw [h2,hlen,I.hlen]) hmH;refine h1.wp hHm hT fun g' u w' hv hH' hE=> ?_;obtain ⟨H',I'⟩:=Qbdm T I hr hk h1 h2 h3 h4 h5 h6 h7 hv hH' hE hr0 hH0 ht0;exact ih _ (i+1) g' H' _ w' I' hleft
  unfold wpOpIn;rw [hr.op];exact key
end
end Go.Ev
namespace Go.Ev
set_option linter.unusedVariables false
def encN (l:List UInt8):Nat:=l.foldl (fun a b=>a*256+b.toNat) 1
theorem Qt3 (l:List UInt8) (b:UInt8):encN (l++[b])=encN l*256+b.toNat:=by simp [encN]
theorem Q1b: ∀(l:List UInt8) (a:Nat),(l.foldl (fun (a:Int) b=>a*256+b.toNat) (a:Int))=((l.foldl (fun a b=>a*256+b.toNat) a:Nat):Int)
 |[],a=>rfl
 |b::l,a=>by
  simp only [List.foldl_cons];rw [<-Q1b l]
  congr 1
  all_goals simp
theorem Qbb8 (s:ByteArray):encB s=(encN s.data.toList:Nat):=Q1b s.data.toList 1
theorem Qxz {P:List UInt8->Prop} (h0:P []) (h1: ∀l b,P l->P (l++[b])) (l:List UInt8):P l:=by
 have: ∀n (l:List UInt8),l.length=n->P l:=by
  intro n;induction n with
  |zero=>intro l hl;rw [List.length_eq_zero_iff.1 hl];exact h0
  |succ n ih=>
   intro l hl;have hne:l≠[]:=by intro e;rw [e] at hl;simp at hl
   rw [<-List.dropLast_concat_getLast hne];exact h1 _ _ (ih _ (by simp [hl]))
 exact this _ l rfl
theorem Q0f (l:List UInt8):1<=encN l:=by
 induction l using Qxz with
 |h0=>exact Nat.le_refl _
 |h1 l b ih=>rw [Qt3];omega
theorem Qbb9 (l:List UInt8):2^l.length<=encN l:=by
 induction l using Qxz with
 |h0=>exact Nat.le_refl _
 |h1 l b ih=>
  rw [Qt3,List.length_append,List.length_singleton,Nat.pow_succ];omega
theorem Qbbr (l:List UInt8): ∀(f:Nat) (acc:List UInt8),l.length<f->digB f (encN l) acc=l++acc:=by
 induction l using Qxz with
 |h0=>
  intro f acc hf;cases f with
  |zero=>omega
  |succ f=>rfl
 |h1 l b ih=>
  intro f acc hf;cases f with
  |zero=>omega
  |succ f=>
   have hp:=Q0f l;have hb:=UInt8.toNat_lt b;have h9: ¬(encN l*256+b.toNat<=1):=by omega
   have h1:Nat.ble (encN l*256+b.toNat) 1=false:=by
    cases hc:Nat.ble (encN l*256+b.toNat) 1 with
    |true=>exact absurd (Nat.le_of_ble_eq_true hc) h9
    |false=>rfl
   rw [Qt3];simp only [digB,h1];rw [show (encN l*256+b.toNat)/256=encN l by omega,show (encN l*256+b.toNat)%256=b.toNat by omega];rw [ih f _ (by simp at hf;omega)];simp
theorem Qlt (s:ByteArray):decS (encB s)=s:=by
 unfold decS;rw [Qbb8,Int.toNat_natCast,Qbbr];simp;have h1:=Qbb9 s.data.toList;have h2:=Q0f s.data.toList;have:=(Nat.le_log2 (by omega:encN s.data.toList≠0)).2 h1;omega
end Go.Ev
namespace Go.Ev
set_option linter.unusedVariables false
set_option linter.unusedSimpArgs false
set_option linter.unnecessarySimpa false
inductive Fact where
 |tru (i:Nat) (b:Bool)
 |isn (i:Nat) (n:Int)
 |non (i:Nat) (n:Int)
def Fact.holds (V:Sig):Fact->Prop
 |.tru i b=>V.b i=b
 |.isn i n=>V.i i=n
 |.non i n=>V.i i≠n
def Qo (V:Sig):List Fact->Prop
 |[]=>True
 |x::F=>x.holds V/\Qo V F
theorem Qbm {V:Sig} (x:Fact) {F:List Fact} (h:x.holds V) (h':Qo V F):Qo V (x::F):=⟨h,h'⟩
inductive Ob where
 |ok
 |no
 |node (i:Nat) (y n:Ob)
 |pick (i:Nat) (k:Int) (y n:Ob)
def Ob.Sat (V:Sig):Ob->Prop
 |.ok=>True
 |.no=>False
 |.node i y n=>(V.b i=true->y.Sat V)/\(V.b i=false->n.Sat V)
 |.pick i k y n=>(V.i i=k->y.Sat V)/\(V.i i≠k->n.Sat V)
inductive Tree (α:Type) where
 |leaf (a:α)
 |node (i:Nat) (y n:Tree α)
 |pick (i:Nat) (k:Int) (y n:Tree α)
 |or (y n:Tree α)
 |req (o:Ob) (t:Tree α)
 |dead
def Sat {α:Type} (V:Sig) (Q:α->Prop):Tree α->Prop
 |.leaf a=>Q a
 |.node i y n=>(V.b i=true->Sat V Q y)/\(V.b i=false->Sat V Q n)
 |.pick i k y n=>(V.i i=k->Sat V Q y)/\(V.i i≠k->Sat V Q n)
 |.or y n=>Sat V Q y/\Sat V Q n
 |.req o t=>o.Sat V/\Sat V Q t
 |.dead=>False
theorem Sat.mono {α:Type} {V:Sig} {Q Q':α->Prop} (hq: ∀a,Q a->Q' a): ∀{T:Tree α},Sat V Q T->Sat V Q' T
 |.leaf _,h=>hq _ h
 |.node _ _ _,h=>⟨fun e=>Sat.mono hq (h.1 e),fun e=>Sat.mono hq (h.2 e)⟩
 |.pick _ _ _ _,h=>⟨fun e=>Sat.mono hq (h.1 e),fun e=>Sat.mono hq (h.2 e)⟩
 |.or _ _,h=>⟨Sat.mono hq h.1,Sat.mono hq h.2⟩
 |.req _ _,h=>⟨h.1,Sat.mono hq h.2⟩
 |.dead,h=>h
def Qbj {α β:Type} (F:List Fact) (T:Tree α) (k:List Fact->α->Tree β):Tree β:=
 match T with
 |.leaf a=>k F a
 |.node i y n=> .node i (Qbj (.tru i true::F) y k) (Qbj (.tru i false::F) n k)
 |.pick i c y n=> .pick i c (Qbj (.isn i c::F) y k) (Qbj (.non i c::F) n k)
 |.or y n=> .or (Qbj F y k) (Qbj F n k)
 |.req o t=> .req o (Qbj F t k)
 |.dead=> .dead
theorem Qck {α β:Type} {V:Sig} {Q:β->Prop} {k:List Fact->α->Tree β}: ∀{T:Tree α} {F:List Fact},Qo V F->Sat V Q (Qbj F T k)->Sat V (fun a=> ∃F',Qo V F'/\Sat V Q (k F' a)) T
 |.leaf _,F,hF,h=>⟨F,hF,h⟩
 |.node i _ _,_,hF,h=>⟨fun e=>Qck (Qbm (.tru i true) e hF) (h.1 e),fun e=>Qck (Qbm (.tru i false) e hF) (h.2 e)⟩
 |.pick i c _ _,_,hF,h=>⟨fun e=>Qck (Qbm (.isn i c) e hF) (h.1 e),fun e=>Qck (Qbm (.non i c) e hF) (h.2 e)⟩
 |.or _ _,_,hF,h=>⟨Qck hF h.1,Qck hF h.2⟩
 |.req _ _,_,hF,h=>⟨h.1,Qck hF h.2⟩
 |.dead,_,_,h=>h
abbrev CxF:=List Fact->Cx
structure CtxOk (C:CxF):Prop where
 n: ∀F F',(C F).n=(C F').n
 ok: ∀F V,(C F).Good V->Qo V F
 up: ∀F F' V,(C F).Good V->Qo V F'->(C F').Good V
theorem HRel.to {ng ng':Cx} {g:Inj} {H:List Blk} {w:World} (h:HRel ng g H w) (hn:ng'.n=ng.n) (hg:ng'.Good g.sig):HRel ng' g H w:=
 ⟨h.dom,h.inj,h.blk0,by rw [hn];exact h.glob,hg,h.frz⟩
theorem CtxOk.facts {C:CxF} (hC:CtxOk C) {F:List Fact} {g:Inj} {H:List Blk} {w:World} (h:HRel (C F) g H w):Qo g.sig F:=hC.ok F _ h.sig
theorem CtxOk.move {C:CxF} (hC:CtxOk C) {F F':List Fact} {g:Inj} {H:List Blk} {w:World} (h:HRel (C F) g H w) (h':Qo g.sig F'):HRel (C F') g H w:=
 h.to (hC.n _ _) (hC.up F F' _ h.sig h')
def OutQ (ng:Cx) (hp:Hp) (g:Inj) (w:World) (o:Out) (hp':Hp) (e:Ending) (w':World):Prop:=
 Touch hp hp'/\ ∃g',Qla g' o e/\HRel ng g' hp'.heap w'/\Ext g hp.heap w g' hp'.heap w'
abbrev Qbb:=List Fact->FuncId->List AVal->Hp->Tree (Out×Hp)
abbrev Qbo:=List Fact->Nat->List AVal->Hp->Tree (Out×Hp)
def Qyj (P:Program) (k:FuncId):Prop:=
 ∃(tS tR e:TypeId) (size:Nat),P.underlying tS=some (.slice e)/\(∀w,(sizeOf e).run P w=.ok size w)/\
  ∀args w,(callFunc k args).run P w=((Extern.SlicesOverlaps.overlaps #[tS,tS] #[tR] args).run P w).andThen fun v w'=> .ok (.value v) w'
def Qyi (P:Program) (k:FuncId):Bool->Prop
 |true=> ∀(a:Addr) (x y:Int) (w:World),w.cell? a=some (.int .u64 x)->w.frozen? a=false->(callFunc k #[.pointer (some a),.int .u64 y]).run P w=.ok (.value (.int .u64 (IntKind.u64.wrap (x+y)))) (w.setCell a (.int .u64 (IntKind.u64.wrap (x+y))))
 |false=> ∀(a:Addr) (x:Int) (w:World),w.cell? a=some (.int .u64 x)->(callFunc k #[.pointer (some a)]).run P w=.ok (.value (.int .u64 x)) w
structure Hooks (P:Program) (ng:Cx):Prop where
 val: ∀f args v,ng.hook f args=some v-> ∀hp,CallP P ng f args hp (.val v) hp
 mem: ∀f args hp v hp',ng.mhook f args hp=some (v,hp')->CallP P ng f args hp (.val v) hp'
 ovl: ∀f k,ng.insf=some (f,k)->Qyj P k
 atm: ∀k b,(k,b)∈ng.atoms->Qyi P k b
 pan: ∀f args hp v hp',ng.phook f args hp=some (v,hp')->CallP P ng f args hp (.pan v) hp':=by
  intro f args hp v hp' h;have h2:(none:Option (AVal×Hp))=some (v,hp'):=h;cases h2
def Qhv (P:Program) (C:CxF) (call:Qbb):Prop:=
 ∀F f args hp (Q:Out×Hp->Prop) g w (args':Array Value),HRel (C F) g hp.heap w->LRel g args args'.toList->Sat g.sig Q (call F f args hp)->
  Calls P f args' w fun e w'=> ∃x,Q x/\OutQ (C F) hp g w x.1 x.2 e w'
def Qoy (P:Program) (C:CxF) (round:Qbo):Prop:=
 ∀F b args hp (Q:Out×Hp->Prop) g w (args':Array Value) L (r:Option Nat),HRel (C F) g hp.heap w->g b=some L->LRel g args args'.toList->Sat g.sig Q (round F b args hp)->
  ∃fn tmps asg body,(Instr.yield L.blk args').run P w=.ok (.round L.blk fn tmps asg body) w/\
   RoundIn (FR r) 0 P L.blk fn tmps asg body w fun e w'=> ∃x,Q x/\OutQ (C F) hp g w x.1 x.2 e w'
inductive KA where
 |pure|load|fresh|eff
 deriving DecidableEq
def Qux (P:Program):Op->KA
 |.load _ _=> .load
 |.alloc _=> .fresh
 |.box _ _=> .fresh
 |.buildSlice _ _ _=> .fresh
 |.makeSlice _ _ _=> .fresh
 |.store _ _ _=> .eff
 |.makeMap _ _=> .eff
 |.insert _ _ _ _=> .eff
 |.mapUpdate _ _ _ _=> .eff
 |.range _ _=> .eff
 |.entry _=> .load
 |.lookup _ _ _ _=> .load
 |.convert s d _=>match P.underlying s,P.underlying d with
  |some .string,some (.slice _)=> .fresh
  |some (.slice _),some .string=> .load
  |some (.slice _),some (.slice _)=> .eff
  |_,_=> .pure
 |.call c=>match c.callee with
  |.builtin .append=> .eff
  |.builtin .copy=> .eff
  |_=> .pure
 |_=> .pure
def opA (P:Program) (ng:Cx) (t:Tm) (op:Op) (hp:Hp):Option (AVal×Hp):=
 match Qux P op with
 |.pure=>match Qgl P ng t op with
  |some v=>some (v,hp)
  |none=>none
 |.load=>match Qcv P ng t op hp.heap with
  |some x=>some (x.1,hp)
  |none=>none
 |.fresh=>match Qf3 P ng t op with
  |some (c,e,m)=>some (m.val hp.heap.length,⟨hp.heap++[.cells c e],hp.log⟩)
  |none=>effA P ng t op hp
 |.eff=>effA P ng t op hp
def Qjr:Op->Option Call
 |.call c=>match c.callee with
  |.value _=>some c
  |.invoke _ _=>some c
  |_=>none
 |_=>none
inductive Ask where
 |tru (i:Nat)
 |num (i:Nat) (l:List Int)
 |non (i:Nat) (k:Int)
def askW (ng:Cx) (ops:List Oper) (t:Tm) (o:Oper):Option Ask:=
 match o.guard with
 |none=>none
 |some (j,_)=>match ops[j]? with
  |none=>none
  |some q=>match q.dst with
   |none=>none
   |some d=>match t.get d with
    |none=>none
    |some v=>match Qch ng v with
     |.symb i=>some (.tru i)
     |_=>none
def askT (ng:Cx):Option AVal->Option Ask
 |some v=>match Qch ng v with
  |.symb i=>some (.tru i)
  |_=>none
 |none=>none
def askK (ng:Cx) (k:AVal):List (AVal×AVal)->Option Ask
 |[]=>none
 |p::l=>match askT ng (symS ng (.bin .eql k p.1)) with
  |some a=>some a
  |none=>askK ng k l
def orA (a b:Option Ask):Option Ask:=
 match a with
 |some x=>some x
 |none=>b
def rngL:Nat->Int->List Int
 |0,_=>[]
 |n+1,i=>i::rngL n (i+1)
def Qdt (ng:Cx) (a b:AVal):Option Ask:=
 match Qci a,Qci b with
 |some _,some _=>none
 |_,_=>askT ng (symS ng (.bin .leq a b))
def Qlj (ng:Cx) (a b:AVal):Option Ask:=
 match Qci a,Qci b with
 |some _,some _=>none
 |_,_=>askT ng (symS ng (.bin .lss a b))
def Qbas (ng:Cx) (a b:AVal):Option Ask:=
 match symS ng (.sop .cat [a,b]) with
 |some (.syms c)=>match symS ng (.sop .len [.syms c]) with
  |some n=>Qdt ng n (.int .i64 9223372036854775807)
  |none=>none
 |_=>none
def Qbat (ng:Cx) (i:Nat) (lo hi:Option AVal):Option Ask:=
 match lenS ng i with
 |some n=>orA (Qdt ng (.int .i64 0) (lo.getD (.int .i64 0))) (orA (Qdt ng (lo.getD (.int .i64 0)) (hi.getD n)) (Qdt ng (hi.getD n) n))
 |none=>none
def Qbaq (ng:Cx) (K:Nat) (a b:AVal):Option Ask:=
 match (match isZ a with
  |true=>some b
  |false=>match isZ b with
   |true=>some a
   |false=>symS ng (.bin .add a b)) with
 |some r=>orA (match kdI ng b||isZ b with
  |true=>none
  |false=>Qdt ng b (.int .i64 9223372036854775807)) (orA (Qdt ng (.int .i64 0) r) (Qdt ng r (.int .i64 K)))
 |none=>none
def Qbar (P:Program) (ng:Cx) (ts:List TypeId) (l:List AVal) (H:List Blk):Option Ask:=
 match ts,l with
 |t::_,[s,x]=>match P.underlying t with
  |some (.slice e)=>match P.info? e,Qrd e ng.lsts with
   |some ie,some cl=>match dstL ng cl e s H,srcL ng cl x H with
    |some (_,dn,_),some (_,sn)=>Qbaq ng (140737488355328/ie.bytes) dn sn
    |_,_=>none
   |_,_=>none
  |_=>none
 |_,_=>none
def askA (P:Program) (ng:Cx) (t:Tm) (op:Op) (H:List Blk):Option Ask:=
  match op with
  |.lookup _ x k _=>match ev ng t x,ev ng t k with
    |some (.map b),some k=>match H[b]? with
      |some (.map l)=>askK ng k l
      |_=>none
    |_,_=>none
  |.indexAddr _ x ix=>match ev ng t x,ev ng t ix with
    |some (.row i),some ix=>match ng.rlen i with
      |some n=>orA (askT ng (symS ng (.bin .leq (.int .i64 0) ix))) (askT ng (symS ng (.bin .lss ix n)))
      |none=>none
    |some (.lsl _ _ _ _ n),some ix=>orA (Qdt ng (.int .i64 0) ix) (Qlj ng ix n)
    |some (.slice _ _ n _ _),some (.symi _ i)=>some (.num i (rngL n 0))
    |some (.ptr _ _),some (.symi _ i)=>match P.underlying (match op with
        |.indexAddr ty _ _=>ty
        |_=>0) with
      |some (.array n _)=>some (.num i (rngL n 0))
      |_=>none
    |_,_=>none
  |.index ty x ix=>match ev ng t x,ev ng t ix with
    |some (.syms i),some j=>match lenS ng i with
      |some n=>orA (Qdt ng (.int .i64 0) j) (Qlj ng j n)
      |none=>none
    |some (.agg _),some (.symi _ i)=>match P.underlying ty with
      |some (.array n _)=>some (.num i (rngL n 0))
      |_=>none
    |_,_=>none
  |.convert _ _ x=>match ev ng t x with
    |some (.syms i)=>match lenS ng i with
      |some (.symi _ j)=>some (.num j (rngL 17 0))
      |_=>none
    |some (.lsl _ _ _ _ n)=>Qlj ng (.int .i64 0) n
    |_=>none
  |.binOp .add _ x y _=>match ev ng t x,ev ng t y with
    |some a,some b=>match Qh6 a&&Qh6 b with
      |true=>Qbas ng a b
      |false=>none
    |_,_=>none
  |.binOp .quo _ _ y _=>match ev ng t y with
    |some (.symi _ i)=>some (.non i 0)
    |_=>none
  |.binOp .rem _ _ y _=>match ev ng t y with
    |some (.symi _ i)=>some (.non i 0)
    |_=>none
  |.binOp .eql _ x y _=>match ev ng t x,ev ng t y with
    |some (.lsl _ _ _ _ n),some .nilslice=>Qlj ng (.int .i64 0) n
    |_,_=>none
  |.binOp .neq _ x y _=>match ev ng t x,ev ng t y with
    |some (.lsl _ _ _ _ n),some .nilslice=>Qlj ng (.int .i64 0) n
    |_,_=>none
  |.pick c _ _=>askT ng (ev ng t c)
  |.call c=>match c.callee with
    |.builtin .append=>match evL ng t c.args.toList with
      |some l=>Qbar P ng c.argTypes.toList l H
      |none=>none
    |_=>none
  |.makeSlice _ l _=>match ev ng t l with
    |some (.symi _ i)=>some (.num i (rngL 17 0))
    |_=>none
  |.slice _ x lo hi _=>match ev ng t x with
   |some (.syms i)=>match evO ng t lo,evO ng t hi with
    |some l,some h=>Qbat ng i l h
    |_,_=>none
   |some (.lsl _ _ _ off n)=>match evO ng t lo,evO ng t hi with
    |some l,some h=>orA (match isZ off,l with
      |false,some y=>match symS ng (.bin .add off y) with
        |some r=>Qdt ng (.int .i64 0) r
        |none=>none
      |_,_=>none)<|orA (Qdt ng (.int .i64 0) (l.getD (.int .i64 0))) (orA (Qdt ng (l.getD (.int .i64 0)) (h.getD n)) (Qdt ng (h.getD n) n))
    |_,_=>none
   |_=>match hi with
    |some h=>match ev ng t h with
      |some (.symi _ i)=>some (.num i (rngL 17 0))
      |_=>match lo with
        |some l=>match ev ng t l with
          |some (.symi _ i)=>some (.num i (rngL 17 0))
          |_=>none
        |none=>none
    |none=>match lo with
      |some l=>match ev ng t l with
        |some (.symi _ i)=>some (.num i (rngL 17 0))
        |_=>none
      |none=>none
  |_=>none
def Qez {α:Type} (k:List Fact->Tree α) (F:List Fact):Option Ask->Tree α
 |some (.tru i)=> .node i (k (.tru i true::F)) (k (.tru i false::F))
 |some (.num i l)=>picks k i l F
 |some (.non i c)=> .pick i c (k (.isn i c::F)) (k (.non i c::F))
 |none=> .dead
where picks (k:List Fact->Tree α) (i:Nat):List Int->List Fact->Tree α
 |[],_=> .dead
 |c::l,F=> .pick i c (k (.isn i c::F)) (picks k i l (.non i c::F))
theorem Qxt {α:Type} {V:Sig} {Q:α->Prop} {k:List Fact->Tree α} {F:List Fact} {x:Option Ask} (hF:Qo V F) (h:Sat V Q (Qez k F x)): ∃F',Qo V F'/\Sat V Q (k F'):=by
 have key: ∀(i:Nat) (l:List Int) (F:List Fact),Qo V F->Sat V Q (Qez.picks k i l F)-> ∃F',Qo V F'/\Sat V Q (k F'):=by
  intro i l;induction l with
  |nil=>intro F hF h;exact h.elim
  |cons c l ih=>
   intro F hF h;rcases Classical.em (V.i i=c) with e|e
   exact ⟨.isn i c::F,Qbm (.isn i c) e hF,h.1 e⟩;exact ih _ (Qbm (.non i c) e hF) (h.2 e)
 unfold Qez at h;split at h
 ·rename_i i
  cases hb:V.b i with
  |true=>exact ⟨_,Qbm (.tru i true) hb hF,h.1 hb⟩
  |false=>exact ⟨_,Qbm (.tru i false) hb hF,h.2 hb⟩
 exact key _ _ F hF h;rename_i i c;rcases Classical.em (V.i i=c) with e|e
 exact ⟨.isn i c::F,Qbm (.isn i c) e hF,h.1 e⟩;exact ⟨.non i c::F,Qbm (.non i c) e hF,h.2 e⟩;exact h.elim
def Qyh (ng:Cx) (t:Tm) (c:Call):Option (Nat×List AVal):=
 match c.callee with
 |.value f=>match ev ng t f,evL ng t c.args.toList with
  |some (.yield b),some l=>some (b,l)
  |_,_=>none
 |_=>none
def Qqa (q x:Nat) (all:List (AVal×AVal)) (hp:Hp):Nat->List (AVal×AVal)->Tree (Out×Hp)
 |_,[]=> .dead
 |i,[p]=> .leaf (.val (.tuple [.bool true,p.1,p.2]),⟨hp.heap.set q (.iter x (all.eraseIdx i) (some p)),q::hp.log⟩)
 |i,p::p'::l=> .or (.leaf (.val (.tuple [.bool true,p.1,p.2]),⟨hp.heap.set q (.iter x (all.eraseIdx i) (some p)),q::hp.log⟩)) (Qqa q x all hp (i+1) (p'::l))
def Q6u (q x:Nat) (hp:Hp):List (AVal×AVal)->Tree (Out×Hp)
 |[]=> .leaf (.val (.tuple [.bool false]),hp)
 |p::l=>Qqa q x (p::l) hp 0 (p::l)
def Qjo (ng:Cx) (f:FuncId) (args:List AVal) (hp:Hp):Option (Nat×Nat×List AVal×List AVal×Hp):=
 match ng.insf with
 |none=>none
 |some x=>match Nat.beq f x.1 with
  |false=>none
  |true=>match args with
   |.slice b off len cap ex::rest=>match ex with
    |none=>none
    |some z=>match hp.heap[b]? with
     |some (.cells c e)=>if off=0/\len=cap/\0<cap/\c.length=cap*z then
       some (b,z,.slice b 0 len cap none::rest,.slice b 0 len (cap+1) (some z)::rest,⟨hp.heap.set b (.cells (c++List.replicate z .junk) e),b::hp.log⟩) else none
     |_=>none
   |_=>none
def eqN:AVal->AVal->Bool
 |.bool a,.bool b=>a==b
 |.int k a,.int k' b=>decide (k=k')&&a==b
 |.str a,.str b=>a.toList==b.toList
 |.symi k a,.symi k' b=>decide (k=k')&&Nat.beq a b
 |.symb a,.symb b=>Nat.beq a b
 |.syms a,.syms b=>Nat.beq a b
 |_,_=>false
def eqNs:List AVal->List AVal->Bool
 |[],[]=>true
 |a::l,b::m=>eqN a b&&eqNs l m
 |_,_=>false
def numV:AVal->Bool
 |.bool _=>true
 |.int _ _=>true
 |.str _=>true
 |.symi _ _=>true
 |.symb _=>true
 |.syms _=>true
 |_=>false
def Qn2:List AVal->Bool
 |[]=>true
 |a::l=>numV a&&Qn2 l
def oldB (n b:Nat):List Nat->Bool
 |[]=>true
 |i::l=>(Nat.ble n i||Nat.beq i b)&&oldB n b l
def Qrm (hp:Hp) (b z:Nat) (x:Out×Hp):Option (Nat×List AVal×TypeId):=
 match x.1 with
 |.val v=>match v with
  |.slice nb off len cap ex=>match ex with
   |some z'=>match x.2.heap[nb]? with
    |some (.cells c e)=>if z'=z/\off=0/\0<len/\len<=cap/\(nb=b\/hp.heap.length<=nb)/\len*z<=c.length/\oldB hp.heap.length b (x.2.log.take (x.2.log.length-hp.log.length))=true/\Qn2 (c.take (len*z))=true then some (len,c.take (len*z),e) else none
    |_=>none
   |none=>none
  |_=>none
 |.pan _=>none
def Qsf (x y:Nat×List AVal×TypeId):Bool:=Nat.beq x.1 y.1&&(Nat.beq x.2.2 y.2.2&&eqNs x.2.1 y.2.1)
def Qfi (hp:Hp) (b z:Nat):Tree (Out×Hp)->Option (Nat×List AVal×TypeId)
 |.leaf x=>Qrm hp b z x
 |.or y n=>match Qfi hp b z y with
  |some d=>match Qfi hp b z n with
   |some d'=>match Qsf d d' with
    |true=>some d
    |false=>none
   |none=>none
  |none=>none
 |_=>none
def Ql9 (hp:Hp) (b z:Nat) (T1 T2:Tree (Out×Hp)):Tree (Out×Hp):=
 match Qfi hp b z T1 with
 |some d=>match Qfi hp b z T2 with
  |some d'=>match Qsf d d' with
   |true=> .leaf (.val (.slice hp.heap.length 0 d.1 d.1 (some z)),⟨hp.heap.set b .gone++[.cells d.2.1 d.2.2],b::hp.log⟩)
   |false=> .or T1 T2
  |none=> .or T1 T2
 |none=> .or T1 T2
def ovlA (ng:Cx) (t:Tm) (c:Call) (hp:Hp):Bool:=false
def Qlk (ng:Cx) (t:Tm) (c:Call) (hp:Hp):Option (AVal×Hp):=none
def Qg1 (P:Program) (C:CxF) (call:Qbb) (round:Qbo) (all:List Oper) (o:Oper):Nat->List Fact->Tm->Hp->Tree (Out×Hp)
  |0,_,_,_=> .dead
  |n+1,F,t,hp=>match Qb2 (C F) all t o with
    |none=>Qez (fun F=>Qg1 P C call round all o n F t hp) F (askW (C F) all t o)
    |some false=> .leaf (.val Qcm,hp)
    |some true=>match Qjr o.op with
      |some c=>match Qyh (C F) t c with
        |some (b,l)=>round F b l hp
        |none=>match Qkr P (C F) t c with
          |some (f,args)=>match (C F).hook f args with
            |some v=> .leaf (.val v,hp)
            |none=>match (C F).mhook f args hp with
              |some (v,hp')=> .leaf (.val v,hp')
              |none=>match Qjo (C F) f args hp with
                |some (b,z,a1,a2,hp2)=>Ql9 hp b z (call F f a1 hp) (call F f a2 hp2)
                |none=>call F f args hp
          |none=>match Qlk (C F) t c hp with
           |some (v,hp')=> .leaf (.val v,hp')
           |none=>match ovlA (C F) t c hp with
            |true=> .or (.leaf (.val (.bool true),hp)) (.leaf (.val (.bool false),hp))
            |false=> .dead
      |none=>match opA P (C F) t o.op hp with
        |some (v,hp')=> .leaf (.val v,hp')
        |none=>match o.op with
          |.panic x=>match ev (C F) t x with
            |some v=>match v with
              |.iface _ _=> .leaf (.pan v,hp)
              |_=> .dead
            |none=> .dead
          |.next it s=>match s with
            |false=>match ev (C F) t it with
              |some (.ptr q 0)=>match hp.heap[q]? with
                |some (.iter x l _)=>Q6u q x hp l
                |_=> .dead
              |_=> .dead
            |true=> .dead
          |op=>Qez (fun F=>Qg1 P C call round all o n F t hp) F (askA P (C F) t op hp.heap)
def Qzs (ng:Cx) (t:Tm) (g:Option (Nat×Bool)) (c:Call):Option ADef:=
 match g with
 |some _=>none
 |none=>match c.callee with
  |.value f=>match ev ng t f,evL ng t c.args.toList with
   |some (.func fn first cap),some l=>some (.fn fn cap (first++l))
   |_,_=>none
  |_=>none
def Q10:Op->Option Call
 |.defer c=>some c
 |_=>none
def opsT (P:Program) (C:CxF) (call:Qbb) (round:Qbo) (inr:Bool) (all:List Oper):List Oper->List Fact->Tm->Hp->Tree (Ex×Tm×Hp)
 |[],_,t,hp=> .leaf (.normal,t,hp)
 |o::rest,F,t,hp=>match Q10 o.op with
  |none=>Qbj F (Qg1 P C call round all o 12 F t hp) fun F r=>match r with
   |(.val v,hp')=>opsT P C call round inr all rest F (putA t o.dst v) hp'
   |(.pan v,hp')=> .leaf (.pan v,t,hp')
  |some c=>match inr with
   |true=> .dead
   |false=>match Qzs (C F) t o.guard c with
    |some d=>opsT P C call round inr all rest F (putA ⟨t.len,t.tr,d::t.df⟩ o.dst Qcm) hp
    |none=> .dead
theorem Qwx {P:Program} {ng:Cx} {t:Tm} {all:List Oper} {o:Oper} {hp hp':Hp} {v:AVal} (hw:Qb2 ng all t o=some true) (h:opA P ng t o.op hp=some (v,hp')):Step P ng all o t hp v hp':=by
 unfold opA at h;split at h;split at h;rename_i v' hv;cases h;exact .pure v hw hv;cases h;split at h;rename_i x hx;cases h;exact .load _ x.2 hw (by rw [hx]);cases h;split at h;rename_i c e m hf;cases h;exact .fresh c e m hw hf;exact .eff v hp' hw h;exact .eff v hp' hw h
theorem Qur {op:Op} {c:Call} (h:Qjr op=some c):op=.call c:=by
 unfold Qjr at h;split at h;split at h<;>cases h<;>rfl;cases h
theorem Qbo6 {P:Program} {ng:Cx} {g:Inj} {t:Tm} {ρ:Operand->Value} (hρ:ERel g ng t ρ) {c:Call} {type:TypeId} {b:Nat} {l:List AVal} (h:Qyh ng t c=some (b,l)) (w:World):
  ∃(L:Loc) (args':Array Value),g b=some L/\LRel g l args'.toList/\(do let d<-resolve ρ c type;invoke d.target d.args).run P w=(Instr.yield L.blk args').run P w:=by
 unfold Qyh at h;split at h;rename_i f hf;split at h;rename_i b' l' hv hl;cases h;have h1:=hρ.1 _ _ hv;have hh: ∃L,g b=some L/\ρ f=.func (.yield L.blk) #[] #[]:=by
  generalize ρ f=u at h1;cases h1 with
  |yield _ L hL=>exact ⟨L,hL,rfl⟩
 obtain ⟨L,hL,hu⟩:=hh;refine ⟨L,c.args.map ρ,hL,?_,?_⟩;simpa using Qb9 hρ _ _ hl;simp [resolve,hf,hu,invoke,Deferred.ofValue];cases h;cases h
theorem Q1i {q x:Nat} {all:List (AVal×AVal)} {hp:Hp} {V:Sig} {Q:Out×Hp->Prop}: ∀(l:List (AVal×AVal)) (i:Nat),Sat V Q (Qqa q x all hp i l)-> ∀(j:Nat) (p:AVal×AVal),l[j]? =some p->
  Q (.val (.tuple [.bool true,p.1,p.2]),⟨hp.heap.set q (.iter x (all.eraseIdx (i+j)) (some p)),q::hp.log⟩)
 |[],_,_,j,p,hj=>by simp at hj
 |[p],i,h,j,p',hj=>by
  cases j with
  |zero=>simp at hj;subst hj;exact h
  |succ j=>simp at hj
 |p::p'::l,i,h,j,r,hj=>by
  cases j with
  |zero=>simp at hj;subst hj;exact h.1
  |succ j=>
   have:=Q1i (p'::l) (i+1) h.2 j r (by simpa using hj);rw [show i+(j+1)=i+1+j by omega];exact this
theorem MRel.get_of {g:Inj}: ∀{l:List (AVal×AVal)} {m:List MapEntry},MRel g l m-> ∀(j:Nat) (e:MapEntry),m[j]? =some e-> ∃p,l[j]? =some p/\VRel g p.1 e.key/\VRel g p.2 e.val
 |_,_,.cons k v e l m h1 h2 h,0,e',hj=>by simp at hj;subst hj;exact ⟨(k,v),by simp,h1,h2⟩
 |_,_,.cons k v e l m h1 h2 h,j+1,e',hj=>by
  obtain ⟨p,q1,q2,q3⟩:=MRel.get_of h j e' (by simpa using hj);exact ⟨p,by simpa using q1,q2,q3⟩
theorem MRel.erase {g:Inj}: ∀{l:List (AVal×AVal)} {m:List MapEntry},MRel g l m-> ∀(j:Nat),MRel g (l.eraseIdx j) (m.eraseIdx j)
 |_,_,.nil,j=>by simpa using MRel.nil
 |_,_,.cons k v e l m h1 h2 h,0=>by simpa using h
 |_,_,.cons k v e l m h1 h2 h,j+1=>by simpa using MRel.cons k v e _ _ h1 h2 (MRel.erase h j)
theorem Q0t: ∀(m:List MapEntry) (j:Nat) (e:MapEntry),(m.map (·.born)).Nodup->m[j]? =some e->m.filter (fun y=> !(y.born==e.born))=m.eraseIdx j
 |[],j,e,_,hj=>by simp at hj
 |y::m,0,e,hn,hj=>by
  simp at hj;subst hj;simp only [List.map_cons,List.nodup_cons] at hn;simp only [List.eraseIdx_cons_zero,List.filter_cons,BEq.rfl,Bool.not_true,Bool.false_eq_true,if_false];rw [List.filter_eq_self];intro z hz;have:z.born≠y.born:=fun he=>hn.1 (by rw [<-he];exact List.mem_map_of_mem hz);simpa using this
 |y::m,j+1,e,hn,hj=>by
  simp only [List.map_cons,List.nodup_cons] at hn;have he:m[j]? =some e:=by simpa using hj
  have hne:y.born≠e.born:=fun h=>hn.1 (by rw [h];exact List.mem_map_of_mem (List.mem_of_getElem? he));simp only [List.eraseIdx_cons_succ,List.filter_cons];rw [if_pos (by simpa using hne),Q0t m j e hn.2 he]
theorem Qbj2 {P:Program} {ng:Cx} {g:Inj} {hp:Hp} {w:World} (hH:HRel ng g hp.heap w) {q x:Nat} {l:List (AVal×AVal)} {cur:Option (AVal×AVal)} (hb:hp.heap[q]? =some (.iter x l cur)) {u:Value} (hu:VRel g (.ptr q 0) u) (ty:TypeId):
  (l=[]/\(Instr.next u false ty).run P w=.ok (.tuple #[.bool false]) w)\/
  ∃(j:Nat) (p:AVal×AVal) (v:Value) (w':World),l[j]? =some p/\(Instr.next u false ty).run P w=.ok v w'/\VRel g (.tuple [.bool true,p.1,p.2]) v/\
   HRel ng g (hp.heap.set q (.iter x (l.eraseIdx j) (some p))) w'/\Ext g hp.heap w g (hp.heap.set q (.iter x (l.eraseIdx j) (some p))) w':=by
 obtain ⟨L,hL,X,seen,es',k0,k1,k2,k3,k4,k5⟩:=hH.blk q _ hb (by simp);obtain ⟨_,⟨f1,f2,f3⟩,_⟩:=hH.frz.mp x X k1;have hh:u=.pointer (some ⟨L.blk,0,none⟩):=by
  cases hu with
  |ptr _ _ M hM=>rw [hL] at hM;cases hM;rw [k0]
 subst hh;rcases run_next_at (P:=P) w ty L.blk X.blk X.cl X.cl seen X.es X.cl k2 f1 f3 (Nat.le_refl _) with ⟨n1,n2⟩|⟨e,he,w1,hw1,hrun⟩
 left;refine ⟨?_,n2⟩;have h0:(leftOf X.es seen).toList=[]:=List.eq_nil_of_length_eq_zero (by simpa using n1);rw [h0] at k3;have:=List.Perm.nil_eq k3;subst this;cases k4;rfl;right;have hm:e∈es':=k3.mem_iff.1 he;obtain ⟨j,hj,hje⟩:=List.getElem_of_mem hm;have hje:es'[j]? =some e:=by rw [List.getElem?_eq_getElem hj,hje]
 obtain ⟨p,q1,q2,q3⟩:=k4.get_of j e hje;have hsub:List.Sublist (leftOf X.es seen).toList X.es.toList:=by
  unfold leftOf;rw [Array.toList_filter];exact List.filter_sublist
 have hnod:((leftOf X.es seen).toList.map (·.born)).Nodup:=f2.sublist (hsub.map _);have hnod':(es'.map (·.born)).Nodup:=(k3.map _).nodup_iff.1 hnod;refine ⟨j,p,_,_,q1,hrun,.tuple _ _ (.cons _ _ _ _ (.bool _) (.cons _ _ _ _ q2 (.cons _ _ _ _ q3 .nil))),?_⟩;have hlt:L.blk<w.heap.size:=(Array.getElem?_eq_some_iff.1 k2).1;have hheap:w1.heap=w.heap:=by rcases hw1 with rfl|rfl<;>rfl
 have hW:Wr L.blk w (ChangeMaps.setBlock w1 L.blk (.mapIter (some X.blk) X.cl (seen.push e.born) X.cl)):=by
  constructor;simp [ChangeMaps.setBlock,hheap];intro k hk;simp only [ChangeMaps.setBlock,hheap];exact Array.getElem?_setIfInBounds_ne (Ne.symm hk);rcases hw1 with rfl|rfl<;>rfl
  rcases hw1 with rfl|rfl<;>rfl;rcases hw1 with rfl|rfl<;>rfl
 refine HRel.writeK hH ⟨_,hb,by simp⟩ hL hW ?_;refine ⟨X,seen.push e.born,es'.eraseIdx j,k0,k1,?_,?_,k4.erase j,fun k v hc=> ?_⟩;simp [ChangeMaps.setBlock,hheap,hlt];have e1:(leftOf X.es (seen.push e.born)).toList=(leftOf X.es seen).toList.filter (fun y=> !(y.born==e.born)):=by
  unfold leftOf;simp only [Array.toList_filter,List.filter_filter]
  congr 1
  funext y;rw [contains_push];cases seen.contains y.born<;>simp
 rw [e1,<-Q0t es' j e hnod' hje];exact k3.filter _;cases hc;exact ⟨e,seen,hsub.subset he,rfl,q2,q3⟩
section
variable {P : Program} {C : CxF} {call : Qbb} {round : Qbo}
theorem HRel.below {ng:Cx} {g:Inj} {H:List Blk} {w w':World} (h:HRel ng g H w) (hb:RowKit.Below w.heap.size w w'):HRel ng g H w'/\Ext g H w g H w':=by
 refine ⟨⟨fun i L hi=>⟨(h.dom i L hi).1,Nat.lt_of_lt_of_le (h.dom i L hi).2 hb.size⟩,h.inj,?_,h.glob,h.sig,h.frz.to rfl rfl (Nat.le_refl _) hb.size fun b hlt q2=>⟨hb.block b hlt,q2⟩⟩,
  ⟨Sub.refl g,(fun i L hi hn=>by rw [hn] at hi;cases hi),(fun i L hi hn=>by rw [hn] at hi;cases hi),Nat.le_refl _,fun _ _ hl=>hl,hb.size,fun b hlt _=>hb.block b hlt,hb.os,hb.tape,hb.output⟩⟩
 intro i k hi hk;rcases h.blk0 i k hi hk with hz|⟨L,hL,hB⟩
 exact .inl hz;exact .inr ⟨L,hL,hB.of_same (hb.block _ (h.dom i L hL).2)⟩
theorem Qbc4 {ng:Cx} {f:FuncId} {args a1 a2:List AVal} {b z:Nat} {hp hp2:Hp} {g:Inj} {w:World} {args':Array Value} (h:Qjo ng f args hp=some (b,z,a1,a2,hp2)) (hH:HRel ng g hp.heap w) (hl:LRel g args args'.toList):
  (∃c e,hp.heap[b]? =some (.cells c e))/\(LRel g a1 args'.toList\/(LRel g a2 args'.toList/\HRel ng g hp2.heap w/\Ext g hp.heap w g hp2.heap w/\Touch hp hp2)):=by
 unfold Qjo at h;split at h;cases h;split at h;cases h;split at h;rename_i b off len cap ex rest;split at h;cases h;rename_i z;split at h;rename_i c e hb;split at h
 ·rename_i hc
  obtain ⟨h1,h2,h3,h4⟩:=hc;subst h1;subst h2;cases h;refine ⟨⟨_,_,hb⟩,?_⟩;obtain ⟨args'⟩:=args';simp only at hl⊢;cases hl with
  |cons _ u _ m hu hm=>
  cases hu with
  |slice _ _ _ _ _ o' cap' L hL q0 q1 q2=>
  have ho:o'=0:=by
   rcases q0 with q0|q0;exact q0;omega
  subst ho;obtain ⟨q3,q4⟩:=q2 _ rfl;by_cases hcap:cap'=len;subst hcap;exact .inl (.cons _ _ _ _ (.slice _ _ _ _ _ _ _ L hL (.inl rfl) (fun _=>rfl) (fun _ hz=>by cases hz)) hm);have hmul:(len+1)*z<=cap'*z:=Nat.mul_le_mul_right _ (by omega);rw [Nat.add_mul] at hmul;obtain ⟨M,hM,C,fr,k1,k2,k3,k4,k5⟩:=hH.blk b _ hb (by simp);rw [hL] at hM;cases hM;have hB:BRel g w (.cells (c++List.replicate z .junk) e) L:=by
   refine ⟨C,fr,k1,k2,k3,by simp;omega,?_⟩;intro i a hi;rcases Nat.lt_or_ge i c.length with h9|h9
   rw [List.getElem?_append_left h9] at hi;exact k5 i a hi;rw [List.getElem?_append_right h9] at hi;have hlt:i-c.length<z:=by
    have:=(List.getElem?_eq_some_iff.1 hi).1;simpa using this
   rw [List.getElem?_replicate,if_pos hlt] at hi;cases hi;have hs:L.dl+i<C.size:=by omega
   have hv:C[L.dl+i]? =some C[L.dl+i]:=by simp [hs]
   have h1c:=k3.one C[L.dl+i] (by simp);exact ⟨_,hv,.junk _ h1c,h1c⟩
  obtain ⟨r1,r2⟩:=HRel.writeK hH (k':=.cells (c++List.replicate z .junk) e) ⟨_,hb,by simp⟩ hL (Wr.refl _ _) hB;refine .inr ⟨.cons _ _ _ _ (.slice _ _ _ _ _ _ _ L hL (.inl rfl) (fun h=>by cases h) (fun z' hz=>by cases hz;exact ⟨by omega,q4⟩)) hm,r1,r2,Qel ⟨_,hb,by simp⟩ (fun la h=>by cases h)⟩
 cases h;cases h;cases h
theorem Q1d {ng:Cx} {f:FuncId} {args a1 a2:List AVal} {b z:Nat} {hp hp2:Hp} (h:Qjo ng f args hp=some (b,z,a1,a2,hp2)):Touch hp hp2/\ ∃c e,hp.heap[b]? =some (.cells c e):=by
 unfold Qjo at h;split at h;cases h;split at h;cases h;split at h;split at h;cases h;split at h;rename_i hb;split at h;cases h;exact ⟨Qel ⟨_,hb,by simp⟩ (fun la h=>by cases h),_,_,hb⟩;cases h;cases h;cases h
theorem OutQ.rebase {ng:Cx} {hp hp2:Hp} {g:Inj} {w:World} {o:Out} {hp':Hp} {e:Ending} {w':World} (hH:HRel ng g hp.heap w) (ht:Touch hp hp2) (hE:Ext g hp.heap w g hp2.heap w) (h:OutQ ng hp2 g w o hp' e w'):OutQ ng hp g w o hp' e w':=by
 obtain ⟨h1,g',h2,h3,h4⟩:=h;exact ⟨ht.trans h1,g',h2,h3,hE.trans hH h4⟩
theorem Qbku {P:Program} {ng:Cx} {t:Tm} {c:Call} {type:TypeId} {hp:Hp} {g:Inj} {w:World} {ρ:Operand->Value} (h:ovlA ng t c hp=true) (hok: ∀f k,ng.insf=some (f,k)->Qyj P k) (hH:HRel ng g hp.heap w) (hρ:ERel g ng t ρ):
  ∃x w',(do let d<-resolve ρ c type;invoke d.target d.args:Sem Next).run P w=.ok (.value (.bool x)) w'/\HRel ng g hp.heap w'/\Ext g hp.heap w g hp.heap w':=by
 unfold ovlA at h;cases h
theorem Qyy {ng:Cx} {t:Tm} {c:Call} {hp hp':Hp} {v:AVal} (h:Qlk ng t c hp=some (v,hp')):Touch hp hp':=by
 unfold Qlk at h;cases h
theorem Qbav {P:Program} {ng:Cx} {t:Tm} {c:Call} {type:TypeId} {hp hp':Hp} {g:Inj} {w:World} {v:AVal} {ρ:Operand->Value} (h:Qlk ng t c hp=some (v,hp')) (hok: ∀k b,(k,b)∈ng.atoms->Qyi P k b) (hH:HRel ng g hp.heap w) (hρ:ERel g ng t ρ):
  ∃u w',(do let d<-resolve ρ c type;invoke d.target d.args:Sem Next).run P w=.ok (.value u) w'/\VRel g v u/\HRel ng g hp'.heap w'/\Ext g hp.heap w g hp'.heap w':=by
 unfold Qlk at h;cases h
theorem Q1g {hp:Hp} {b:Nat} {c:List AVal} {e:TypeId} (hb:Live hp.heap b):Touch hp ⟨hp.heap.set b .gone++[.cells c e],b::hp.log⟩:=
 (Qel (k:=.gone) hb (fun la h=>by cases h)).trans Qfu
theorem toList_inj {a b:ByteArray} (h:a.toList=b.toList):a=b:=by
 have h1:=beq_toListBytes a b;rw [h] at h1;simp only [BEq.rfl] at h1;obtain ⟨a⟩:=a;obtain ⟨b⟩:=b;have h2:(a==b)=true:=h1;rw [eq_of_beq h2]
theorem Qbch: ∀{a b:AVal},eqN a b=true->a=b:=by
 intro a b h;cases a<;>cases b<;>simp only [eqN,Bool.and_eq_true,decide_eq_true_eq,beq_iff_eq,Bool.false_eq_true] at h;rw [h];rw [h.1,h.2];rename_i x y;rw [toList_inj h];rw [h.1,Nat.eq_of_beq_eq_true h.2];rw [Nat.eq_of_beq_eq_true h];rw [Nat.eq_of_beq_eq_true h]
theorem Q0r: ∀{l m:List AVal},eqNs l m=true->l=m
 |[],[],_=>rfl
 |[],_::_,h=>by simp [eqNs] at h
 |_::_,[],h=>by simp [eqNs] at h
 |a::l,b::m,h=>by
  simp only [eqNs,Bool.and_eq_true] at h;rw [Qbch h.1,Q0r h.2]
theorem Q8s {x y:Nat×List AVal×TypeId} (h:Qsf x y=true):x=y:=by
 simp only [Qsf,Bool.and_eq_true] at h;obtain ⟨h1,h2,h3⟩:=h;obtain ⟨a,b,c⟩:=x;obtain ⟨a',b',c'⟩:=y;simp only at h1 h2 h3;rw [Nat.eq_of_beq_eq_true h1,Nat.eq_of_beq_eq_true h2,Q0r h3]
theorem Qbke {g g':Inj} (hs:g'.sig=g.sig) {a:AVal} {v:Value} (h:VRel g a v) (hn:numV a=true):VRel g' a v:=by
 cases h<;>simp only [numV,Bool.false_eq_true] at hn;exact .bool _;exact .int _ _;exact .str _;rw [<-hs];exact .symi _ _;rw [<-hs];exact .symb _;rw [<-hs];exact .syms _
theorem Q60: ∀{l:List AVal},Qn2 l=true-> ∀(i:Nat) (a:AVal),l[i]? =some a->numV a=true
 |[],_,i,a,h=>by simp at h
 |b::l,hn,0,a,h=>by
  simp only [Qn2,Bool.and_eq_true] at hn;simp at h;subst h;exact hn.1
 |b::l,hn,i+1,a,h=>by
  simp only [Qn2,Bool.and_eq_true] at hn;exact Q60 hn.2 i a (by simpa using h)
theorem Q69 {n b:Nat}: ∀{l:List Nat},oldB n b l=true-> ∀i,i<n->i≠b->i∉l
 |[],_,_,_,_=>by simp
 |j::l,h,i,hi,hb=>by
  simp only [oldB,Bool.and_eq_true,Bool.or_eq_true] at h;simp only [List.mem_cons,not_or];refine ⟨fun e=> ?_,Q69 h.2 i hi hb⟩;rcases h.1 with h1|h1
  have:=Nat.le_of_ble_eq_true h1;omega;exact hb (e.trans (Nat.eq_of_beq_eq_true h1))
theorem Qrn {hp:Hp} {b z:Nat} {d:Nat×List AVal×TypeId} {V:Sig}: ∀{T:Tree (Out×Hp)},Qfi hp b z T=some d->Sat V (fun x=>Qrm hp b z x=some d) T
 |.leaf x,h=>h
 |.or y n,h=>by
  simp only [Qfi] at h;split at h;rename_i d1 h1;split at h;rename_i d2 h2;split at h;rename_i hs;cases h;have:=Q8s hs;subst this;exact ⟨Qrn h1,Qrn h2⟩;cases h;cases h;cases h
 |.node _ _ _,h=>by simp [Qfi] at h
 |.pick _ _ _ _,h=>by simp [Qfi] at h
 |.dead,h=>by simp [Qfi] at h
 |.req _ _,h=>by simp [Qfi] at h
theorem Qbc8 {ng:Cx} {g g':Inj} {H H':List Blk} {w w':World} (h:HRel ng g H w) (h':HRel ng g' H' w') (hsub:Sub g g') {i:Nat} {k:Blk} (hi:H[i]? =some k) (hi':H'[i]? =some k) (hk:k≠.gone):Qce g k\/ ∃L,g i=some L/\BRel g w' k L:=by
 rcases h.blk0 i k hi hk with hz|⟨L,hL,hB⟩;exact .inl hz;rcases h'.blk0 i k hi' hk with hz|⟨L',hL',hB'⟩;exact .inl (hz.mono hsub.sig.symm);refine .inr ⟨L,hL,?_⟩;have:=hsub i L hL;rw [this] at hL';cases hL';cases k with
 |gone=>trivial
 |map l=>
  obtain ⟨_,_,es1,_,_,b3,_⟩:=hB;obtain ⟨es,cl,es',d1,d2,d3,d4⟩:=hB';exact ⟨es,cl,es',d1,d2,MRel.back hsub b3 d3,d4⟩
 |iter x l cur=>
  obtain ⟨X,_,es1,b0,b1,_,_,b4,b5⟩:=hB;obtain ⟨X',seen,es',d0,d1,d2,d3,d4,d5⟩:=hB';have:=hsub.mp _ _ b1;rw [this] at d1;cases d1;refine ⟨_,seen,es',b0,b1,d2,d3,MRel.back hsub b4 d4,fun k v e=> ?_⟩;obtain ⟨e1,s0,_,_,c3,c4⟩:=b5 k v e;obtain ⟨e2,s1,f1,f2,f3,f4⟩:=d5 k v e;exact ⟨e2,s1,f1,f2,VRel.back' hsub c3 f3,VRel.back' hsub c4 f4⟩
 |loop la=>
  obtain ⟨r,b1,b2,b3,b4,b5,b6,b7,D,b8,b9⟩:=hB;obtain ⟨r',d1,d2,d3,d4,d5,d6,d7,D',d8,d9⟩:=hB';have hD:=hsub _ _ b8;rw [hD] at d8;cases d8;refine ⟨r',d1,d2,d3,⟨d4.1,fun j v hv=> ?_⟩,d5,d6,d7,D,b8,d9⟩;obtain ⟨u,_,m2⟩:=b4.2 j v hv;obtain ⟨u',n1,n2⟩:=d4.2 j v hv;exact ⟨u',n1,VRel.back' hsub m2 n2⟩
 |dfr=>exact hB'
 |cells c e=>
  obtain ⟨C,fr,_,_,_,_,b5⟩:=hB;obtain ⟨C',fr',d1,d2,d3,d4,d5⟩:=hB';refine ⟨C',fr',d1,d2,d3,d4,?_⟩;intro j x hj;obtain ⟨v,_,m2,_⟩:=b5 j x hj;obtain ⟨v',n1,n2,n3⟩:=d5 j x hj;exact ⟨v',n1,VRel.back' hsub m2 n2,n3⟩
 |lst s n cl e=>
  obtain ⟨S,N,_,_,_,p1,p2,_,_,_,_,_,p8⟩:=hB;obtain ⟨S',N',C',fr',e9,d1,d2,d3,d4,d5,d6,d7,d8⟩:=hB';rw [hsub.sig] at d1 d2 d6;have eN:N'=N:=by rw [p2] at d2;cases d2;rfl
  have eS:S'=S:=by rw [p1] at d1;cases d1;rfl
  subst eN;subst eS;refine ⟨S',N',C',fr',e9,d1,d2,d3,d4,d5,d6,d7,fun m j hm hj=> ?_⟩;obtain ⟨v,_,m2,_⟩:=p8 m j hm hj;obtain ⟨v',n1,n2,n3⟩:=d8 m j hm hj;exact ⟨v',n1,VRel.back' hsub m2 n2,n3⟩
theorem OutQ.norm {ng:Cx} {hp:Hp} {g:Inj} {w:World} {b z len:Nat} {c:List AVal} {e:TypeId} {x:Out×Hp} {en:Ending} {w':World} (hH:HRel ng g hp.heap w) (hb: ∃c e,hp.heap[b]? =some (.cells c e)) (h:Qrm hp b z x=some (len,c,e)) (ho:OutQ ng hp g w x.1 x.2 en w'):
  OutQ ng hp g w (.val (.slice hp.heap.length 0 len len (some z))) ⟨hp.heap.set b .gone++[.cells c e],b::hp.log⟩ en w':=by
 obtain ⟨cb,eb,hb⟩:=hb;have hbl:b<hp.heap.length:=(List.getElem?_eq_some_iff.1 hb).1;have hlb:Live hp.heap b:=⟨_,hb,by simp⟩;obtain ⟨hT,g',hO,hH',hE⟩:=ho;unfold Qrm at h;split at h;rename_i v hv;split at h;rename_i nb off len' cap ex;split at h;rename_i z';split at h;rename_i c0 e0 hnb;split at h
 ·rename_i hc
  obtain ⟨rfl,rfl,h0,hcap,hnbb,hlen,hold,hnum⟩:=hc;simp only [Option.some.injEq,Prod.mk.injEq] at h;obtain ⟨rfl,rfl,rfl⟩:=h;rw [hv] at hO;obtain ⟨u,rfl,hu⟩:=hO;cases hu with
  |slice _ _ _ _ _ o' cap' L hL q0 q1 q2=>
  have ho':o'=0:=by
   rcases q0 with q0|q0;exact q0;omega
  subst ho';obtain ⟨q3,q4⟩:=q2 _ rfl;have hsame: ∀i,i<hp.heap.length->i≠b->x.2.heap[i]? =hp.heap[i]?:=by
   intro i hi hib;obtain ⟨pre,e1,e2⟩:=hT.log;refine e2 i hi ?_;have:x.2.log.take (x.2.log.length-hp.log.length)=pre:=by rw [e1];simp
   rw [this] at hold;exact Q69 hold i hi hib
  have hgn:g hp.heap.length=none:=by
   cases hg:g hp.heap.length with
   |none=>rfl
   |some M=>have:=(hH.dom _ M hg).1;omega
  have hlnb:Live x.2.heap nb:=⟨_,hnb,by simp⟩;have hset: ∀i,i≠b->(hp.heap.set b .gone)[i]? =hp.heap[i]?:=fun i hi=>List.getElem?_set_ne (Ne.symm hi);have hsetb:(hp.heap.set b .gone)[b]? =some .gone:=List.getElem?_set_self hbl;have hlenS:(hp.heap.set b .gone).length=hp.heap.length:=by simp
  have old: ∀i k,(hp.heap.set b .gone++[.cells (c0.take (len'*z')) e0])[i]? =some k->k≠.gone->(i<hp.heap.length/\i≠b/\hp.heap[i]? =some k)\/(i=hp.heap.length/\k=.cells (c0.take (len'*z')) e0):=by
   intro i k hi hk;rcases Nat.lt_or_ge i hp.heap.length with h9|h9
   rw [List.getElem?_append_left (by rw [hlenS];exact h9)] at hi;by_cases hib:i=b;subst hib;rw [hsetb] at hi;cases hi;exact absurd rfl hk;rw [hset i hib] at hi;exact .inl ⟨h9,hib,hi⟩;rw [List.getElem?_append_right (by rw [hlenS];exact h9),hlenS] at hi;have:i-hp.heap.length=0:=by
    have:=(List.getElem?_eq_some_iff.1 hi).1;simp at this;omega
   rw [this] at hi;simp at hi;exact .inr ⟨by omega,hi.symm⟩
  have liv: ∀i,Live (hp.heap.set b .gone++[.cells (c0.take (len'*z')) e0]) i->(i<hp.heap.length/\i≠b/\Live hp.heap i/\Live x.2.heap i)\/i=hp.heap.length:=by
   rintro i ⟨k,hi,hk⟩;rcases old i k hi hk with ⟨h1,h2,h3⟩|⟨h1,_⟩;exact .inl ⟨h1,h2,⟨k,h3,hk⟩,⟨k,(hsame i h1 h2).trans h3,hk⟩⟩;exact .inr h1
  have hsub:=hE.sub;have apart: ∀i M,i<hp.heap.length->i≠b->Live x.2.heap i->g i=some M->M.blk≠L.blk:=by
   intro i M h1 h2 h3 h4 he;have:=hH'.inj i nb M L (hsub _ _ h4) hL he h3 hlnb;omega
  obtain ⟨M,hM,C,fr,k1,k2,k3,k4,k5⟩:=hH'.blk nb _ hnb (by simp);rw [hL] at hM;cases hM;have hLblk:=(hH'.dom nb L hL).2;refine ⟨?_,upd g hp.heap.length L,⟨_,rfl,?_⟩,?_,?_⟩;exact Q1g hlb;exact .slice _ _ _ _ _ 0 cap' L (Q4 _ _ _) (.inl rfl) (fun h=>by cases h) (fun z hz=>by cases hz;exact ⟨by omega,q4⟩);refine ⟨?_,?_,?_,?_,hH.sig,?_⟩;intro i N hi;by_cases hin:i=hp.heap.length;subst hin;rw [Q4] at hi;cases hi;exact ⟨by simp,hLblk⟩;rw [Qy _ _ hin] at hi;have:=hH.dom i N hi;exact ⟨by simp;omega,Nat.lt_of_lt_of_le this.2 hE.size⟩;intro i j N N' hi hj he li lj;rcases liv i li with ⟨a1,a2,a3,a4⟩|a1<;>rcases liv j lj with ⟨d1,d2,d3,d4⟩|d1;rw [Qy _ _ (by omega)] at hi hj;exact hH.inj i j N N' hi hj he a3 d3;subst d1;rw [Qy _ _ (by omega)] at hi;rw [Q4] at hj;cases hj;exact absurd he (apart i N a1 a2 a4 hi);subst a1;rw [Qy _ _ (by omega)] at hj;rw [Q4] at hi;cases hi;exact absurd he.symm (apart j N' d1 d2 d4 hj);omega;intro i k hi hk;rcases old i k hi hk with ⟨a1,a2,a3⟩|⟨a1,a2⟩;rcases Qbc8 hH hH' hsub a3 ((hsame i a1 a2).trans a3) hk with hz|⟨N,n1,n2⟩;exact .inl (hz.mono rfl);exact .inr ⟨N,by rw [Qy _ _ (by omega)];exact n1,n2.mono (Qe0 L hgn)⟩;subst a1;subst a2;refine .inr ⟨L,Q4 _ _ _,C,fr,k1,k2,k3,by rw [List.length_take];omega,?_⟩;intro j a hj;have hj0:c0[j]? =some a:=by
   rw [List.getElem?_take] at hj;split at hj;exact hj;cases hj
  obtain ⟨y,y1,y2,y3⟩:=k5 j a hj0;exact ⟨y,y1,Qbke (g':=upd g hp.heap.length L) (show g.sig=g'.sig from hsub.sig.symm) y2 (Q60 hnum j a hj),y3⟩;intro i hi;obtain ⟨N,n1,n2⟩:=hH.glob i hi;have:=(hH.dom i N n1).1;exact ⟨N,by rw [Qy _ _ (by omega)];exact n1,n2⟩;refine ⟨fun i X hi hX=> ?_,fun i X hi=> ?_,fun i X hi hX=>hH'.frz.top i X hi (by rw [hsub.sig];exact hX)⟩;have f:=hH'.frz.row i X (by rw [hsub.sig];exact hi) hX;refine ⟨f.1,fun j N hj lj=> ?_⟩;rcases liv j lj with ⟨a1,a2,a3,a4⟩|a1;rw [Qy _ _ (by omega)] at hj;exact f.2 j N (hsub _ _ hj) a4;subst a1;rw [Q4] at hj;cases hj;exact f.2 nb L hL hlnb;have f0:=hH.frz.mp i X hi;have f:=hH'.frz.mp i X (hsub.mp i X hi);refine ⟨by simp;omega,f.2.1,fun j N hj lj=> ?_⟩;rcases liv j lj with ⟨a1,a2,a3,a4⟩|a1;rw [Qy _ _ (by omega)] at hj;exact f.2.2 j N (hsub _ _ hj) a4;subst a1;rw [Q4] at hj;cases hj;exact f.2.2 nb L hL hlnb;refine ⟨Qe0 L hgn,?_,fun i X hi hn=> ?_,by simp,fun i hi li=> ?_,hE.size,hE.frame,hE.os,hE.tape,hE.output⟩;intro i N hi hn;by_cases hin:i=hp.heap.length
  ·subst hin
   rw [Q4] at hi;cases hi;refine ⟨Nat.le_refl _,?_⟩;cases hgnb:g nb with
   |none=>exact (hE.new nb L hL hgnb).2
   |some N=>
    have:=hsub _ _ hgnb;rw [hL] at this;cases this;have hlt:=(hH.dom nb _ hgnb).1;have:nb=b:=by omega
    subst this;exact .inr ⟨nb,L,hgnb,rfl,hlb⟩
  rw [Qy _ _ hin] at hi;rw [hn] at hi;cases hi;exact absurd hi (by show¬g.mp i=some X;rw [hn];simp);rcases liv i li with ⟨_,_,a3,_⟩|a1
  exact a3;omega
 cases h;cases h;cases h;cases h;cases h
theorem Qba3 {P:Program} {C:CxF} {call:Qbb} (hcall:Qhv P C call) {F:List Fact} {f:FuncId} {args:List AVal} {hp:Hp} {Q1:Out×Hp->Prop} {g:Inj} {w:World} {args':Array Value} (hH:HRel (C F) g hp.heap w) (hl:LRel g args args'.toList)
  (hs:Sat g.sig Q1 (match Qjo (C F) f args hp with
   |some (b,z,a1,a2,hp2)=>Ql9 hp b z (call F f a1 hp) (call F f a2 hp2)
   |none=>call F f args hp)):Calls P f args' w fun e w'=> ∃x,Q1 x/\OutQ (C F) hp g w x.1 x.2 e w':=by
 split at hs;rename_i b z a1 a2 hp2 hf;obtain ⟨hbb,hfork⟩:=Qbc4 hf hH hl;have both:Sat g.sig Q1 (.or (call F f a1 hp) (call F f a2 hp2))->Calls P f args' w fun e w'=> ∃x,Q1 x/\OutQ (C F) hp g w x.1 x.2 e w':=by
  intro hs;rcases hfork with h|⟨h,hH2,hE,hT⟩
  exact hcall F f a1 hp Q1 g w args' hH h hs.1;exact (hcall F f a2 hp2 Q1 g w args' hH2 h hs.2).mono fun e w' ⟨x,q,o⟩=>⟨x,q,o.rebase hH hT hE⟩
 unfold Ql9 at hs;split at hs;rename_i d hd1;split at hs;rename_i d' hd2;split at hs;rename_i hsm;have:=Q8s hsm;subst this;obtain ⟨len,c,e⟩:=d;have hq:Q1 (.val (.slice hp.heap.length 0 len len (some z)),⟨hp.heap.set b .gone++[.cells c e],b::hp.log⟩):=hs;rcases hfork with h|⟨h,hH2,hE,hT⟩
 exact (hcall F f a1 hp _ g w args' hH h (Qrn hd1)).mono fun en w' ⟨x,q,o⟩=>⟨_,hq,o.norm hH hbb q⟩;exact (hcall F f a2 hp2 _ g w args' hH2 h (Qrn hd2)).mono fun en w' ⟨x,q,o⟩=>⟨_,hq,(o.rebase hH hT hE).norm hH hbb q⟩;exact both hs;exact both hs;exact both hs;exact hcall F f args hp Q1 g w args' hH hl hs
theorem Qzx (hC:CtxOk C) (hh: ∀F,Hooks P (C F)) (hcall:Qhv P C call) (hround:Qoy P C round) {ops:Array Oper} {o:Oper} {r:Option Nat}: ∀(n:Nat) (F:List Fact) (t:Tm) (hp:Hp) (Q1:Out×Hp->Prop) (g:Inj) (w:World) (a:Act) (K:Act->World->Prop)
  (Q:Exit->Act->World->Prop),HRel (C F) g hp.heap w->TRel g t a->Sat g.sig Q1 (Qg1 P C call round ops.toList o n F t hp)->
  (∀v hp' g' u w',Q1 (.val v,hp')->Touch hp hp'->VRel g' v u->HRel (C F) g' hp'.heap w'->Ext g hp.heap w g' hp'.heap w'->K (a.put o.dst u) w')->
  (∀v hp' g' u w',Q1 (.pan v,hp')->Touch hp hp'->VRel g' v u->HRel (C F) g' hp'.heap w'->Ext g hp.heap w g' hp'.heap w'->Q (.panic [{v:=u,recovered:=false}]) a w')->
  if Region.wanted o (yielded ops a.tmps) then o.wpIn (FR r) 0 P a w K Q else (∀f,o.about P w a.eval=some f->(FR r).fn f)/\K (a.put o.dst undef) w
 |0,F,t,hp,Q1,g,w,a,K,Q,hH,ht,hs,hK,hP=>hs.elim
 |n+1,F,t,hp,Q1,g,w,a,K,Q,hH,ht,hs,hK,hP=>by
  have again: ∀x,Sat g.sig Q1 (Qez (fun F=>Qg1 P C call round ops.toList o n F t hp) F x)->if Region.wanted o (yielded ops a.tmps) then o.wpIn (FR r) 0 P a w K Q else (∀f,o.about P w a.eval=some f->(FR r).fn f)/\K (a.put o.dst undef) w:=by
   intro x hx;obtain ⟨F',hF',h'⟩:=Qxt (hC.facts hH) hx;refine Qzx hC hh hcall hround n F' t hp Q1 g w a K Q (hC.move hH hF') ht h' ?_ ?_;intro v hp' g' u w' q ht' hv hH' hE;exact hK v hp' g' u w' q ht' hv (hC.move hH' (by rw [hE.sub.sig];exact hC.facts hH)) hE;intro v hp' g' u w' q ht' hv hH' hE;exact hP v hp' g' u w' q ht' hv (hC.move hH' (by rw [hE.sub.sig];exact hC.facts hH)) hE
  have step: ∀v hp',Q1 (.val v,hp')->Step P (C F) ops.toList o t hp v hp'->if Region.wanted o (yielded ops a.tmps) then o.wpIn (FR r) 0 P a w K Q else (∀f,o.about P w a.eval=some f->(FR r).fn f)/\K (a.put o.dst undef) w:=
   fun v hp' q st=>st.wp hH ht fun g' u w' hv hH' hE=>hK v hp' g' u w' q st.touch hv hH' hE
  have hρ:ERel g (C F) t a.eval:=⟨fun x v hv=>ht.eval hH.sig hH.glob hv,hH.sig⟩;simp only [Qg1] at hs;split at hs;exact again _ hs;rename_i hw;exact step _ _ hs (.skip hw);rename_i hw;split at hs;rename_i c hcl;have hop:=Qur hcl;have hnd: ∀c',o.op≠.defer c':=by intro c';rw [hop];intro h;cases h
  split at hs
  ·rename_i b l hy
   rw [Qdq hH.sig hw ht,if_pos rfl];obtain ⟨L,args',hL,hl,hrun⟩:=Qbo6 (P:=P) (type:=o.type) hρ hy w;obtain ⟨fn,tmps,asg,body,h1,h2⟩:=hround F b l hp Q1 g w args' L r hH hL hl hs;have h1':(execOp a.eval o).run P w=.ok (.round L.blk fn tmps asg body) w:=by
    rw [<-h1,<-hrun];obtain ⟨dst,op,type,pos,after,guard⟩:=o;simp only at hop;subst hop;rfl
   refine ⟨fun _ _=>trivial,?_⟩;rw [Oper.semAt_eq _ _ _ hnd,h1'];refine ⟨fun h=>(by cases h),h2.mono ?_⟩;rintro e w' ⟨⟨x,hp'⟩,q,ht',g',ho,hH',hE⟩;cases x with
   |val v=>obtain ⟨u,rfl,hu⟩:=ho;exact hK v hp' g' u w' q ht' hu hH' hE
   |pan v=>obtain ⟨u,rfl,hu⟩:=ho;exact hP v hp' g' u w' q ht' hu hH' hE
  split at hs
  ·rename_i f args hres
   split at hs;rename_i v hv;exact step _ _ hs (.call c f args v hp hw hop hres ((hh F).val f args v hv hp));split at hs;rename_i v hp' hv;exact step _ _ hs (.call c f args v hp' hw hop hres ((hh F).mem f args hp v hp' hv));rw [Qdq hH.sig hw ht,if_pos rfl];obtain ⟨args',h1,h2⟩:=Q78 (P:=P) (w:=w) (type:=o.type) hρ hres;have h1':(execOp a.eval o).run P w=.ok (.enter f args') w:=by
    obtain ⟨dst,op,type,pos,after,guard⟩:=o;simp only at hop h1;subst hop;exact h1
   refine ⟨fun _ _=>trivial,?_⟩;rw [Oper.semAt_eq _ _ _ hnd,h1'];refine ⟨fun h=>(by cases h),Qy9 ((Qba3 hcall hH h2 hs).mono ?_)⟩;rintro e w' ⟨⟨x,hp'⟩,q,ht',g',ho,hH',hE⟩;cases x with
   |val v=>obtain ⟨u,rfl,hu⟩:=ho;exact hK v hp' g' u w' q ht' hu hH' hE
   |pan v=>obtain ⟨u,rfl,hu⟩:=ho;exact hP v hp' g' u w' q ht' hu hH' hE
  split at hs;rename_i v hp' hat;rw [Qdq hH.sig hw ht,if_pos rfl];obtain ⟨u,w',e1,e0,e2,e3⟩:=Qbav (P:=P) (type:=o.type) hat (fun k b hk=>(hh F).atm k b hk) hH hρ;have h1':(execOp a.eval o).run P w=.ok (.value u) w':=by
   obtain ⟨dst,op,type,pos,after,guard⟩:=o;simp only at hop e1;subst hop;exact e1
  refine ⟨fun _ _=>trivial,?_⟩;rw [Oper.semAt_eq _ _ _ hnd,h1'];exact hK v hp' g u w' hs (Qyy hat) e0 e2 e3;split at hs
  ·rename_i hov
   rw [Qdq hH.sig hw ht,if_pos rfl];obtain ⟨x,w',e1,e2,e3⟩:=Qbku (P:=P) (type:=o.type) hov (fun f k hk=>(hh F).ovl f k hk) hH hρ;have h1':(execOp a.eval o).run P w=.ok (.value (.bool x)) w':=by
    obtain ⟨dst,op,type,pos,after,guard⟩:=o;simp only at hop e1;subst hop;exact e1
   refine ⟨fun _ _=>trivial,?_⟩;rw [Oper.semAt_eq _ _ _ hnd,h1'];refine hK (.bool x) hp g _ w' ?_ (Touch.refl _) (.bool x) e2 e3;cases x with
   |true=>exact hs.1
   |false=>exact hs.2
  exact hs.elim;split at hs;rename_i v hp' ho;exact step _ _ hs (Qwx hw ho);split at hs;rename_i x hpx;split at hs;rename_i v hv;split at hs;rename_i ty y;have hu:=hρ.1 _ _ hv;rw [Qdq hH.sig hw ht,if_pos rfl];have h1':(execOp a.eval o).run P w=.halt (.panic (a.eval x)) w:=by
   have hq: ∃q,a.eval x=.iface ty q:=by
    generalize a.eval x=u at hu;cases hu with
    |iface _ _ q hq=>exact ⟨q,rfl⟩
   obtain ⟨q,hq⟩:=hq;obtain ⟨dst,op,type,pos,after,guard⟩:=o;simp only at hpx;subst hpx;simp [execOp,Instr.panic,goPanic,hq]
  refine ⟨fun _ _=>trivial,?_⟩;rw [Oper.semAt_eq _ _ _ (by intro c';rw [hpx];intro h;cases h),h1'];exact hP _ _ g _ w hs (Touch.refl _) hu hH (Ext.refl _ _ _);exact hs.elim;exact hs.elim;rename_i it s hnx;split at hs;split at hs;rename_i q hq;split at hs;rename_i x l cur hb;have hu:=hρ.1 _ _ hq;rw [Qdq hH.sig hw ht,if_pos rfl];refine ⟨fun _ _=>trivial,?_⟩;rw [Oper.semAt_eq _ _ _ (by intro c';rw [hnx];intro h;cases h)];have hex: ∀v w',(Instr.next (a.eval it) false o.type).run P w=.ok v w'->(execOp a.eval o).run P w=.ok (.value v) w':=by
   intro v w' h1;obtain ⟨dst,op,type,pos,after,guard⟩:=o;simp only at hnx;subst hnx;simp [execOp,h1]
  rcases Qbj2 (P:=P) hH hb hu o.type with ⟨hl,hrun⟩|⟨j,p,v,w',hj,hrun,hv,h1,h2⟩;subst hl;rw [hex _ _ hrun];exact hK _ _ g _ w hs (Touch.refl _) (.tuple _ _ (.cons _ _ _ _ (.bool _) .nil)) hH (Ext.refl _ _ _);rw [hex _ _ hrun];have hl: ∃p0 l0,l=p0::l0:=by
   cases l with
   |nil=>simp at hj
   |cons p0 l0=>exact ⟨p0,l0,rfl⟩
  obtain ⟨p0,l0,rfl⟩:=hl;have hq1:=Q1i _ _ hs j p hj;rw [Nat.zero_add] at hq1;exact hK _ _ g v w' hq1 (Qel ⟨_,hb,by simp⟩ (fun la h=>by cases h)) hv h1 h2;exact hs.elim;exact hs.elim;exact hs.elim;exact again _ hs
end
inductive DfRel (g:Inj):List ADef->List Deferred->Prop
 |nil:DfRel g [] []
 |mark (b:Nat) (L:Loc) (l:List ADef) (m:List Deferred):g b=some L->DfRel g l m->DfRel g (.mark b::l) ({target:=.collected L.blk,args:= #[]}::m)
 |fn (fv:Fn) (cap args:List AVal) (cap' args':Array Value) (l:List ADef) (m:List Deferred):LRel g cap cap'.toList->LRel g args args'.toList->DfRel g l m->DfRel g (.fn fv cap args::l) ({target:=.fn fv cap',args:=args'}::m)
theorem DfRel.mono {g g':Inj} (hs:Sub g g'): ∀{l:List ADef} {m:List Deferred},DfRel g l m->DfRel g' l m
 |_,_,.nil=> .nil
 |_,_,.mark b L l m h k=> .mark b L l m (hs _ _ h) (DfRel.mono hs k)
 |_,_,.fn fv cap args cap' args' l m h1 h2 k=> .fn fv cap args cap' args' l m (h1.mono hs) (h2.mono hs) (DfRel.mono hs k)
def FRel (g:Inj) (t:Tm) (a:Act):Prop:=TRel g t a/\DfRel g t.df a.defers
theorem FRel.mono {g g':Inj} {t:Tm} {a:Act} (hs:Sub g g') (h:FRel g t a):FRel g' t a:=⟨h.1.mono hs,h.2.mono hs⟩
theorem Qhk (a:Act) (d:Option Tmp) (u:Value):(a.put d u).tmps.size=a.tmps.size/\(a.put d u).defers=a.defers:=by cases d<;>simp [Act.put]
theorem Q7x (t:Tm) (d:Option Tmp) (v:AVal):(putA t d v).df=t.df:=by
 unfold putA;split<;>rfl
theorem FRel.put {g:Inj} {t:Tm} {a:Act} (h:FRel g t a) (d:Option Tmp) {v:AVal} {u:Value} (hv:VRel g v u):FRel g (putA t d v) (a.put d u):=
 ⟨h.1.put d hv,by rw [Q7x,(Qhk a d u).2];exact h.2⟩
def Qbp (g:Inj):Ex->Exit->Prop
 |.normal,.normal=>True
 |.exit i,.exit j=>i=j
 |.ret,.ret=>True
 |.pan v,.panic ch=> ∃u,ch=[{v:=u,recovered:=false}]/\VRel g v u
 |_,_=>False
def Qw (ng:Cx) (hp:Hp) (g:Inj) (w:World) (a:Act) (x:Ex×Tm×Hp) (e:Exit) (a':Act) (w':World):Prop:=
 Touch hp x.2.2/\ ∃g',Qbp g' x.1 e/\HRel ng g' x.2.2.heap w'/\Ext g hp.heap w g' x.2.2.heap w'/\FRel g' x.2.1 a'/\a'.tmps.size=a.tmps.size
theorem Qw.trans {ng:Cx} {hp hp':Hp} {x:Ex×Tm×Hp} {g g':Inj} {w w':World} {a a':Act} {e:Exit} {a'':Act} {w'':World} (h0:HRel ng g hp.heap w) (ht:Touch hp hp') (hE:Ext g hp.heap w g' hp'.heap w')
  (hs:a'.tmps.size=a.tmps.size) (h:Qw ng hp' g' w' a' x e a'' w''):Qw ng hp g w a x e a'' w'':=by
 obtain ⟨h0',g'',h1,h2,h3,h4,h5⟩:=h;exact ⟨ht.trans h0',g'',h1,h2,hE.trans h0 h3,h4,h5.trans hs⟩
theorem Qw.move {C:CxF} (hC:CtxOk C) {F F':List Fact} {hp:Hp} {x:Ex×Tm×Hp} {g:Inj} {w:World} {a:Act} {e:Exit} {a':Act} {w':World} (hF:Qo g.sig F) (h:Qw (C F') hp g w a x e a' w'):Qw (C F) hp g w a x e a' w':=by
 obtain ⟨h0,g',h1,h2,h3,h4,h5⟩:=h;exact ⟨h0,g',h1,hC.move h2 (by rw [h3.sub.sig];exact hF),h3,h4,h5⟩
theorem Qou {F:Fence} {n:Nat} {P:Program} {ops:Array Oper} {Q Q':Exit->Act->World->Prop} (hq: ∀e a w,Q e a w->Q' e a w): ∀(l:List Oper) (a:Act) (w:World),wpListIn F n P ops Q l a w->wpListIn F n P ops Q' l a w:=by
 intro l;induction l with
 |nil=>intro a w h;exact hq _ _ _ h
 |cons o l ih=>
  intro a w h;unfold wpListIn at h⊢;split
  ·rename_i hw
   rw [if_pos hw] at h;unfold Oper.wpIn at h⊢;refine ⟨h.1,?_⟩;have h:=h.2;generalize (o.semAt F.round a.eval).run P w=r at h⊢;cases r with
   |ok x w'=>
    cases x<;>simp only [Oper.uponIn] at h⊢ <;>first
     |exact ih _ _ h
     |exact ⟨h.1,CallsIn.mono h.2 (fun e w'' he=>by
       cases e with
       |returned v=>exact ih _ _ he
       |panicked ch=>exact hq _ _ _ he
       |outgrown=>obtain ⟨a1,w1,h1⟩:=he;exact ⟨a1,w1,hq _ _ _ h1⟩)⟩
     |exact ⟨h.1,RowsIn.mono h.2 (fun _ _ he=>ih _ _ he)⟩
     |exact ⟨h.1,RoundIn.mono h.2 (fun e w'' he=>by
       cases e with
       |returned v=>exact ih _ _ he
       |panicked ch=>exact hq _ _ _ he
       |outgrown=>obtain ⟨a1,w1,h1⟩:=he;exact ⟨a1,w1,hq _ _ _ h1⟩)⟩
   |halt x w'=>cases x<;>simp only [Oper.uponIn] at h⊢ <;>exact hq _ _ _ h
  rename_i hw;rw [if_neg hw] at h;exact ⟨h.1,ih _ _ h.2⟩
theorem Qrw {P:Program} {C:CxF} {call:Qbb} {round:Qbo} (hC:CtxOk C) (hh: ∀F,Hooks P (C F)) (hcall:Qhv P C call) (hround:Qoy P C round) {ops:Array Oper} {r:Option Nat} {inr:Bool} (hr:inr=false->r=none):
  ∀(rest:List Oper) (F:List Fact) (t:Tm) (hp:Hp) (Q:Ex×Tm×Hp->Prop) (g:Inj) (w:World) (a:Act),HRel (C F) g hp.heap w->FRel g t a->Sat g.sig Q (opsT P C call round inr ops.toList rest F t hp)->
  wpListIn (FR r) 0 P ops (fun e a' w'=> ∃x,Q x/\Qw (C F) hp g w a x e a' w') rest a w
 |[],F,t,hp,Q,g,w,a,hH,ht,hs=>⟨_,hs,Touch.refl _,g,trivial,hH,Ext.refl _ _ _,ht,rfl⟩
 |o::rest,F,t,hp,Q,g,w,a,hH,ht,hs=>by
  simp only [opsT] at hs;split at hs
  case h_2=>
   rename_i c hdc;have hop:o.op=.defer c:=by
    revert hdc;unfold Q10;split;rename_i c' h;intro e;cases e;exact h;intro e;cases e
   split at hs;exact hs.elim;cases hr rfl;split at hs;rename_i d hd;unfold Qzs at hd;split at hd;cases hd;rename_i hgd;split at hd;rename_i fo hc;split at hd;rename_i fn first cap l hf hl
   cases hd;have hρ:ERel g (C F) t a.eval:=⟨fun x v hv=>ht.1.eval hH.sig hH.glob hv,hH.sig⟩;have h1:=hρ.1 fo _ hf;cases hh':a.eval fo<;>rw [hh'] at h1<;>cases h1;rename_i first' cap' hfirst hcap;refine wpListIn_step fun K hK=> ?_;have hargs:LRel g (first++l) (first'++c.args.map a.eval).toList:=by
    simpa using hfirst.append (Qb9 hρ _ _ hl)
   have hex:(execOp a.eval o).run P w=.ok (.defer {target:=.fn fn cap',args:=first'++c.args.map a.eval}) w:=by
    obtain ⟨dst,op,type,pos,after,guard⟩:=o;simp only at hop;subst hop;simp [execOp,resolve,hc,hh',Deferred.ofValue]
   have hw:Region.wanted o (yielded ops a.tmps)=true:=by simp [Region.wanted,hgd]
   rw [if_pos hw];refine ⟨fun _ _=>trivial,?_⟩;rw [show (FR none).round=none from rfl,Oper.semAt_none,hex];refine hK _ _ ?_;have hput:=(show FRel g ⟨t.len,t.tr,.fn fn cap (first++l)::t.df⟩ {a with defers:={target:=.fn fn cap',args:=first'++c.args.map a.eval}::a.defers} from ⟨⟨ht.1.1,ht.1.2⟩,.fn _ _ _ _ _ _ _ hcap hargs ht.2⟩).put o.dst (v:=Qcm) (u:=undef) (.tuple _ _ .nil);have hs':=hs;have:=Qrw hC hh hcall hround hr rest F _ hp Q g w _ hH hput hs';exact Qou (fun e a'' w'' ⟨x,hx,h0,g',k1,k2,k3,k4,k5⟩=>⟨x,hx,h0,g',k1,k2,k3,k4,k5.trans (by rw [(Qhk _ o.dst undef).1])⟩) rest _ _ this;cases hd;cases hd;exact hs.elim
  have hs:=Qck (hC.facts hH) hs;refine wpListIn_step fun K hK=>Qzx hC hh hcall hround 12 F t hp _ g w a K _ hH ht.1 hs ?_ ?_;rintro v hp' g' u w' ⟨F',hF',q⟩ ht' hv hH' hE;refine hK _ _ ?_;have hF0:Qo g'.sig F:=by rw [hE.sub.sig];exact hC.facts hH
  have:=Qrw hC hh hcall hround hr rest F' (putA t o.dst v) hp' Q g' w' (a.put o.dst u) (hC.move hH' (by rw [hE.sub.sig];exact hF')) ((ht.mono hE.sub).put o.dst hv) (by rw [hE.sub.sig];exact q);exact Qou (fun e a'' w'' ⟨x,hx,hq⟩=>⟨x,hx,(hq.move hC hF0).trans hH ht' hE (Qhk a o.dst u).1⟩) rest _ _ this;rintro v hp' g' u w' ⟨F',hF',q⟩ ht' hv hH' hE;exact ⟨_,q,ht',g',⟨u,rfl,hv⟩,hH',hE,ht.mono hE.sub,rfl⟩
end Go.Ev
