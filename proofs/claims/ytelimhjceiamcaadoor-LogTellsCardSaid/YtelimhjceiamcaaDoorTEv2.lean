/- The evaluator, part 2. -/
import Derived.Test.YtelimhjceiamcaaDoorTEv1
set_option linter.unusedVariables false
set_option linter.unusedSimpArgs false
set_option linter.unnecessarySimpa false
namespace Go.Ev
set_option linter.unusedSimpArgs false
theorem LRel.set {g:Inj}: ∀{l:List AVal} {m:List Value},LRel g l m-> ∀(i:Nat) {a:AVal} {v:Value},VRel g a v->LRel g (l.set i a) (m.set i v)
 |_,_,.nil,_,_,_,_=>by simpa using LRel.nil
 |_,_,.cons _ _ _ _ _ h,0,a,v,hv=>by simpa using LRel.cons a v _ _ hv h
 |_,_,.cons b u _ _ hb h,i+1,a,v,hv=>by simpa using LRel.cons b u _ _ hb (LRel.set h i hv)
theorem LRel.sets {g:Inj}: ∀{vs:List AVal} {us:List Value},LRel g vs us-> ∀{l:List AVal} {C:Array Value} (off j:Nat),LRel g l C.toList->
  LRel g (Qd4 l (off+j) vs) ((us.zipIdx j).foldl (fun cs (x:Value×Nat)=>cs.setIfInBounds (off+x.2) x.1) C).toList
 |_,_,.nil,_,_,_,_,h=>by simpa [Qd4] using h
 |_,_,.cons a v l' m' hv hr,l,C,off,j,h=>by
  simp only [Qd4,List.zipIdx_cons,List.foldl_cons];have:=LRel.sets hr (l:=l.set (off+j) a) (C:=C.setIfInBounds (off+j) v) off (j+1) (by simpa using h.set (off+j) hv);simpa [Nat.add_assoc] using this
theorem Qp1 {g:Inj} (place:Nat->Option (Nat×Nat)): ∀{parts:List (Nat×AVal)} {parts':List (Nat×Value)} {cells r:List AVal} {C:Array Value},
  Qh3 place cells parts=some r->parts.length=parts'.length->(∀(i:Nat) (p:Nat×AVal),parts[i]? =some p-> ∃v,parts'[i]? =some (p.1,v)/\VRel g p.2 v)->LRel g cells C.toList->
  ∃R,Instr.fill place C parts'=some R/\LRel g r R.toList
 |[],parts',cells,r,C,h,hl,_,hc=>by
  cases parts' with
  |nil=>simp [Qh3] at h;subst h;exact ⟨C,rfl,hc⟩
  |cons=>simp at hl
 |(i,v)::parts,parts',cells,r,C,h,hl,hp,hc=>by
  cases parts' with
  |nil=>simp at hl
  |cons p' parts'=>
   obtain ⟨u,hu,hrel⟩:=hp 0 (i,v) (by simp);simp at hu;subst hu;simp only [Qh3] at h;split at h;cases h;rename_i off size hpl;split at h;rename_i hcond;have hcl:=hrel.cells;have hlen:=hcl.length;have hclen:=hc.length;have ih:=Qp1 place (parts':=parts') (C:=u.cells.zipIdx.foldl (fun cs (x:Value×Nat)=>cs.setIfInBounds (off+x.2) x.1) C) h (by simpa using hl)
    (fun j p hj=>by simpa using hp (j+1) p (by simpa using hj))
    (by
     have:=LRel.sets hcl off 0 hc;rw [<-Array.foldl_toList];simpa using this)
   obtain ⟨R,hR,hRr⟩:=ih;refine ⟨R,?_,hRr⟩;simp only [Instr.fill,hpl];have hs: ¬(u.cells.size≠size\/C.size<off+u.cells.size):=by
    simp at hlen hclen;omega
   have hs1:u.cells.size=size:=by simp at hlen;omega
   have hs2: ¬(off+u.cells.size>C.size):=by simp at hlen hclen;omega
   simp only [hs1,ne_eq,not_true_eq_false,decide_false,Bool.false_or,decide_eq_true_eq];rw [hs1] at hs2;rw [if_neg hs2];exact hR;cases h
theorem Q7u {P:Program}: ∀(fs:List Field) (r:List (Nat×Nat)),Qoa P fs=some r->fs.mapM (fun f=>(P.info? f.type).map fun i=>(f.offset,i.size))=some r
 |[],r,h=>by simp [Qoa] at h;subst h;simp
 |f::fs,r,h=>by
  simp only [Qoa] at h;split at h;rename_i i s hi hs;cases h;simp [List.mapM_cons,hi,Q7u fs s hs];cases h
section
variable {P : Program} {g : Inj} {ng : Cx} {t : Tm} {ρ : Operand -> Value}
theorem Qub (hρ:ERel g ng t ρ): ∀(l:List (Nat×Operand)) (r:List (Nat×AVal)),evP ng t l=some r->
  r.length=(l.map fun x=>(x.1,ρ x.2)).length/\ ∀(i:Nat) (p:Nat×AVal),r[i]? =some p-> ∃v,(l.map fun x=>(x.1,ρ x.2))[i]? =some (p.1,v)/\VRel g p.2 v
 |[],r,h=>by simp [evP] at h;subst h;simp
 |x::l,r,h=>by
  simp only [evP] at h;split at h
  ·rename_i v s h1 h2
   cases h;obtain ⟨i1,i2⟩:=Qub hρ l s h2;refine ⟨by simp at i1⊢;exact i1,?_⟩;intro i p hp;cases i with
   |zero=>simp at hp;subst hp;exact ⟨_,by simp,hρ _ _ h1⟩
   |succ i=>simpa using i2 i p (by simpa using hp)
  cases h
theorem Qht {ty:TypeId} {z:AVal} (h:Qfq P ty=some z): ∃i zv,P.info? ty=some i/\i.zero=some zv/\ ∀g,VRel g z zv:=by
 unfold Qfq at h;split at h;rename_i i hi;split at h;rename_i zv hz;exact ⟨i,zv,hi,hz,fun g=>Q62 h g⟩;cases h;cases h
theorem Qbl2 (w:World) {ty:TypeId} {parts:List (Nat×AVal)} {parts':Array (Nat×Value)} {r:AVal} (h:Qth P ty parts=some r) (hl:parts.length=parts'.toList.length)
  (hp: ∀(i:Nat) (p:Nat×AVal),parts[i]? =some p-> ∃v,parts'.toList[i]? =some (p.1,v)/\VRel g p.2 v): ∃v,(Instr.build ty parts').run P w=.ok v w/\VRel g r v:=by
 unfold Qth at h;split at h;rename_i z fs hz hu;obtain ⟨it,zv,hit,hzv,hzr⟩:=Qht hz;split at h;rename_i pl hpl;split at h;rename_i c hc;cases h;obtain ⟨R,hR,hRr⟩:=Qp1 (g:=g) (fun i=>pl[i]?) (C:=zv.cells) hc hl hp ((hzr g).cells);refine ⟨.agg R,run_build w ty parts' R ?_,.agg _ _ hRr⟩;have e:=Q7u _ _ hpl;simp only [Program.built,hit,hu,hzv,e];simpa using hR;cases h;cases h;rename_i z n e hz hu;obtain ⟨it,zv,hit,hzv,hzr⟩:=Qht hz;split at h;rename_i ie hie;split at h;rename_i c hc;cases h;obtain ⟨R,hR,hRr⟩:=Qp1 (g:=g) (fun i=>some (i*ie.size,ie.size)) (C:=zv.cells) hc hl hp ((hzr g).cells);refine ⟨.agg R,run_build w ty parts' R ?_,.agg _ _ hRr⟩;simp only [Program.built,hit,hu,hzv,hie];exact hR;cases h;cases h;cases h
theorem Qxm (w:World) {src dst:TypeId} {x r:AVal} {u:Value} (h:Qhz P src dst x=some r) (hx:VRel g x u): ∃v,(convert src dst u).run P w=.ok v w/\VRel g r v:=by
 unfold Qhz at h;split at h;rename_i d k k' n hs hd;cases h;cases hx;exact ⟨_,by simp [convert,run_underlying hs,run_underlying hd,Conv.intToInt],.int _ _⟩;rename_i d s hs hd;cases h;cases hx;exact ⟨_,by simp [convert,run_underlying hs,run_underlying hd],.str _⟩;cases h
theorem Q8o (w:World) {op:UnOp} {x r:AVal} {u:Value} (h:unA op x=some r) (hx:VRel g x u): ∃v,(Op.unary op u).run P w=.ok v w/\VRel g r v:=by
 unfold unA at h;split at h;cases h;cases hx;exact ⟨_,by simp [Op.unary],.bool _⟩;cases h;cases hx;exact ⟨_,by simp [Op.unary,Op.intArith],.int _ _⟩;cases h;cases hx;exact ⟨_,by simp [Op.unary,Op.intBits],.int _ _⟩;cases h
theorem Qbmh (w:World) {ty:TypeId} {x ix r:AVal} {u iu:Value} (h:Qup P ty x ix=some r) (hx:VRel g x u) (hi:VRel g ix iu):
  ∃v,(Instr.indexAt ty u iu).run P w=.ok v w/\VRel g r v:=by
 unfold Qup at h;split at h;rename_i n e b off k i hu;split at h;rename_i ie hie;split at h
 ·rename_i hc
  cases h;cases hi;cases hx with
  |ptr _ _ L hL=>
   refine ⟨.pointer (some ⟨L.blk,L.dl+(off+i.toNat*P.cellsOf e),none⟩),?_,.ptr _ _ L hL⟩;simp [Instr.indexAt,run_underlying hu,Instr.sureAddr,asIntOf,hc,Qbg w hie,Qeb hie,Qbs,Nat.add_assoc]
 cases h;cases h;rename_i e b off n cap ex k i hu;split at h;rename_i ie hie;split at h
 ·rename_i hc
  cases h;cases hi;cases hx with
  |slice _ _ _ _ _ o' cap' L hL h0 _ _=>
   have ho:o'=off:=by rcases h0 with h0|h0;exact h0;omega
   subst ho;refine ⟨.pointer (some ⟨L.blk,L.dl+(o'+i.toNat*P.cellsOf e),none⟩),?_,.ptr _ _ L hL⟩;simp [Instr.indexAt,run_underlying hu,asIntOf,hc,Qbg w hie,Qeb hie,Qbs,Nat.add_assoc]
 cases h;cases h;cases h
theorem Qbmg (w:World) {ty:TypeId} {x ix r:AVal} {u iu:Value} (h:Quo P ty x ix=some r) (hx:VRel g x u) (hi:VRel g ix iu):
  ∃v,(Instr.index ty u iu).run P w=.ok v w/\VRel g r v:=by
 unfold Quo at h;split at h;rename_i n e cs k i hu;split at h;rename_i de hde;split at h
 ·rename_i hc
  cases hi;cases hx with
  |agg _ C hC=>
   obtain ⟨ie,hie⟩:=Qme hde;obtain ⟨v,hv,hr⟩:=Qis w ⟨de,hde⟩ h hC;rw [Qeb hie] at hv;exact ⟨v,by simp [Instr.index,run_underlying hu,asIntOf,hc,Qbg w hie,hv],hr⟩
 cases h;cases h;rename_i s k i hu;split at h;rename_i hc;split at h;rename_i b hb;cases h;cases hi;cases hx;exact ⟨.int .u8 b.toNat,by simp [Instr.index,run_underlying hu,asIntOf,hc,hb],.int _ _⟩;cases h;cases h;cases h
theorem Qbl9 (w:World) {ty:TypeId} {f:Nat} {fd:Field} {cs:List AVal} {u:Value} {r:AVal} (hf:Qe9 P ty f=some fd) (hd: ∃d,P.underlying fd.type=some d)
  (h:Qbt P fd.type cs fd.offset=some r) (hx:VRel g (.agg cs) u): ∃v,(Instr.field ty u f).run P w=.ok v w/\VRel g r v:=by
 unfold Qe9 at hf;split at hf
 ·rename_i fs hu
  cases hx with
  |agg _ C hC=>
   obtain ⟨v,hv,hr⟩:=Qis w hd h hC;have hf':fs[f]? =some fd:=by simpa using hf
   exact ⟨v,by simp [Instr.field,run_underlying hu,hf',asAgg,hv],hr⟩
 cases hf
theorem Qbma (w:World) {ty:TypeId} {f:Nat} {fd:Field} {i:TypeInfo} {b off:Nat} {u:Value} (hf:Qe9 P ty f=some fd) (hi:P.info? fd.type=some i) (hz: ¬i.size=0)
  (hx:VRel g (.ptr b off) u): ∃v,(Instr.fieldAt ty u f).run P w=.ok v w/\VRel g (.ptr b (off+fd.offset)) v:=by
 unfold Qe9 at hf;split at hf
 ·rename_i fs hu
  cases hx with
  |ptr _ _ L hL=>
   have hf':fs[f]? =some fd:=by simpa using hf
   refine ⟨.pointer (some ⟨L.blk,L.dl+(off+fd.offset),none⟩),?_,.ptr _ _ L hL⟩;simp [Instr.fieldAt,run_underlying hu,hf',Instr.sureAddr,fieldPlace,Qbg w hi,hz,Qbs,Nat.add_assoc]
 cases hf
theorem Qbms (w:World) (hg:ng.Good g.sig) {ty:TypeId} {r:Nat} {ix v:AVal} {u iu:Value} (h:Qxc P ng ty r ix=some v) (hx:VRel g (.row r) u) (hi:VRel g ix iu):
  ∃v',(Instr.indexAt ty u iu).run P w=.ok v' w/\VRel g v v':=by
 unfold Qxc at h;split at h;rename_i e hu;split at h;rename_i ie cs hie hrat;split at h
 ·rename_i hlen
  cases h;cases hx with
  |row _ X ao cap h1 h2 h3=>
   obtain ⟨m,d1,d2,d3,_⟩:=hg.rat r ix cs X hrat h1;have hi':=Qn.2 hi;rw [d1] at hi';cases hi';have ha:=h3 (by omega);subst ha;refine ⟨.pointer (some ⟨X.blk,X.off+m*X.z+0,none⟩),?_,.rptr r ix 0 m X h1 d1 d2⟩;have hz:ie.size=X.z:=by rw [<-Qeb hie,<-hlen,d3]
   have hc:(0:Int)<=(m:Int)/\(m:Int)<(X.len:Int):=by omega
   simp [Instr.indexAt,run_underlying hu,asIntOf,hc,Qbg w hie,Qbs,hz,d2]
 cases h;cases h;cases h
theorem Qbmu (w:World) (hg:ng.Good g.sig) {ty:TypeId} {r:Nat} {h v:AVal} {u:Value} {lo' hi' mx':Option Value} (hc:Qxg P ng ty r h=some v) (hx:VRel g (.row r) u)
  (hl:ORel g none lo') (hh:ORel g (some h) hi') (hm:ORel g none mx'): ∃v',(Instr.sliceAt ty u lo' hi' mx').run P w=.ok v' w/\VRel g v v':=by
 unfold Qxg at hc;cases hc
theorem Qbmc (w:World) {ty:TypeId} {f:Nat} {fd:Field} {i:TypeInfo} {r j:Nat} {ix:AVal} {u:Value} (hf:Qe9 P ty f=some fd) (hi:P.info? fd.type=some i) (hz: ¬i.size=0)
  (hx:VRel g (.rptr r ix j) u): ∃v,(Instr.fieldAt ty u f).run P w=.ok v w/\VRel g (.rptr r ix (j+fd.offset)) v:=by
 unfold Qe9 at hf;split at hf
 ·rename_i fs hu
  cases hx with
  |rptr _ _ _ m X h1 h2 h3=>
   have hf':fs[f]? =some fd:=by simpa using hf
   refine ⟨.pointer (some ⟨X.blk,X.off+m*X.z+(j+fd.offset),none⟩),?_,.rptr r ix (j+fd.offset) m X h1 h2 h3⟩;simp [Instr.fieldAt,run_underlying hu,hf',Instr.sureAddr,fieldPlace,Qbg w hi,hz,Qbs,Nat.add_assoc]
 cases hf
theorem Qbmv (w:World) (hg:ng.Good g.sig) {ts:Array TypeId} {ty:TypeId} {r:Nat} {v:AVal} {m:Array Value} (h:Qxh P ng ts.toList r=some v) (hl:LRel g [.row r] m.toList):
  ∃v',(Builtin.len_ ts ty m).run P w=.ok v' w/\VRel g v v':=by
 unfold Qxh at h;split at h;rename_i t e1;obtain ⟨ts⟩:=ts;obtain ⟨m⟩:=m;simp at e1;subst e1;split at h;rename_i e hu;split at h
 ·rename_i a ha
  cases h;cases hl with
  |cons _ u _ _ hx hl=>
   cases hl;cases hx with
   |row _ X ao cap h1 h2 h3=>
    have hd:=hg.rlen r a X ha h1;refine ⟨.int .i64 X.len,by simp [Builtin.len_,run_underlying hu,goInt],Qjk hg ?_⟩;rw [<-Qn,hd];exact .int _ _
 cases h;cases h;cases h
theorem Qdc {ng:Cx} {V:Sig} (hg:ng.Good V) {d:SDef} {r:AVal} (h:symS ng d=some r):Qb V d=some (den V r):=by
 unfold symS at h;split at h;rename_i i hi;have hl:=hg.look d i hi;rw [hl];split at h;rename_i j hr;rw [hr];split at h;rename_i b hb;cases h;simp only [den];rw [hg.fact _ _ hb];cases h;rfl;rename_i k j hr;rw [hr];split at h;rename_i n hn;cases h;simp only [den];rw [hg.num _ _ hn];cases h;rfl;rename_i r' hr1 hr2;cases h;rfl;cases h
theorem Qmj (hg:ng.Good g.sig) {d:SDef} (h:Qqo ng d=true):Qb g.sig d=some (.bool true):=by
 unfold Qqo at h;split at h;rename_i b hs;subst h;obtain ⟨q,h1,h2⟩:=Qcp hg hs;rw [h1];have hk:q=.bool true:=by
  have:=Qdc hg hs;rw [h1] at this;simpa [den] using this
 rw [hk];cases h
theorem Qcu {a:AVal} {n:Int} (h:Qci a=some n):a=.int .i64 n:=by
 unfold Qci at h;split at h;cases h;rfl;cases h
theorem Qco (hg:ng.Good g.sig) {a b:AVal} {x y:Int} (h:leqT ng a b=true) (ha:den g.sig a=.int .i64 x) (hb:den g.sig b=.int .i64 y):x<=y:=by
 unfold leqT at h;split at h;rename_i x' y' h1 h2;have h1:=Qcu h1;have h2:=Qcu h2;subst h1;subst h2;simp only [den,AVal.int.injEq,true_and] at ha hb;subst ha;subst hb;exact of_decide_eq_true h;have:=Qmj hg h;simp only [Qb,ha,hb,binS,intA,if_true,Option.some.injEq,AVal.bool.injEq,decide_eq_true_eq] at this;exact this
theorem Qgd (hg:ng.Good g.sig) {a b:AVal} {x y:Int} (h:lssT ng a b=true) (ha:den g.sig a=.int .i64 x) (hb:den g.sig b=.int .i64 y):x<y:=by
 unfold lssT at h;split at h;rename_i x' y' h1 h2;have h1:=Qcu h1;have h2:=Qcu h2;subst h1;subst h2;simp only [den,AVal.int.injEq,true_and] at ha hb;subst ha;subst hb;exact of_decide_eq_true h;have:=Qmj hg h;simp only [Qb,ha,hb,binS,intA,if_true,Option.some.injEq,AVal.bool.injEq,decide_eq_true_eq] at this;exact this
theorem Q2c (hg:ng.Good g.sig) {i:Nat} {v:AVal} (h:lenB ng i=some v):den g.sig v=.int .i64 ((g.sig.s i).size:Nat):=by
 unfold lenB at h;split at h;rename_i l hd;cases h;have:=hg.sdf i _ hd;simp only [Qb,resS,den,Option.some.injEq,AVal.str.injEq] at this;have e:(g.sig.s i).size=l.length:=by rw [<-this];simp [ByteArray.size]
 rw [e];rfl;have:=Qdc hg h;simp only [Qb,List.map,den,sopA,Option.some.injEq] at this;exact this.symm
theorem Qu1 (hg:ng.Good g.sig) {a b:AVal} {k k':IntKind} {x y:Int} (h:leqT ng a b=true) (ha:den g.sig a=.int k x) (hb:den g.sig b=.int k' y):k=k':=by
 unfold leqT at h;split at h;rename_i x' y' h1 h2;have h1:=Qcu h1;have h2:=Qcu h2;subst h1;subst h2;simp only [den,AVal.int.injEq] at ha hb;rw [<-ha.1,<-hb.1];have:=Qmj hg h;simp only [Qb,ha,hb,binS,intA] at this;split at this;assumption;cases this
theorem Q2e (hg:ng.Good g.sig) {lo hi:AVal} {k k':IntKind} {x y:Int} (h1:leqT ng (.int .i64 0) lo=true) (h2:leqT ng lo hi=true) (ha:den g.sig lo=.int k x) (hb:den g.sig hi=.int k' y):k=.i64/\k'=.i64:=by
 have e1:=Qu1 hg h1 rfl ha;have e2:=Qu1 hg h2 ha hb;exact ⟨e1.symm,by rw [<-e2,<-e1]⟩
theorem Q2f (hg:ng.Good g.sig) {b:AVal} (h:leqT ng (.int .i64 0) b=true): ∃y,den g.sig b=.int .i64 y:=by
 unfold leqT at h;split at h;rename_i x' y' h1 h2;exact ⟨y',by rw [Qcu h2];rfl⟩;have:=Qmj hg h;simp only [Qb] at this;have h0:den g.sig (.int .i64 0)=.int .i64 0:=rfl;rw [h0] at this;cases hb:den g.sig b<;>rw [hb] at this<;>simp only [binS,intA,reduceCtorEq] at this;rename_i k n;split at this;rename_i hk;subst hk;exact ⟨n,rfl⟩;cases this
theorem Qdm {a:AVal} (h:isZ a=true):a=.int .i64 0:=by
 unfold isZ at h;split at h;rw [of_decide_eq_true h];cases h
theorem Quv (hg:ng.Good g.sig) {a:AVal} (h:kdI ng a=true): ∃n:Int,den g.sig a=.int .i64 n/\ -9223372036854775808<=n/\n<9223372036854775808:=by
 unfold kdI at h;split at h;have:=of_decide_eq_true h;exact ⟨_,rfl,this⟩;rename_i j;split at h;rename_i hk;have:=hg.kd j _ hk;refine ⟨_,rfl,?_⟩;rw [<-this];simp only [IntKind.wrap,IntKind.bits,IntKind.signed];simp;split<;>omega;cases h;cases h
theorem Qbnw (hg:ng.Good g.sig) {hi lo r:AVal} {x y:Int} (h:subI ng hi lo=some r) (hl:den g.sig lo=.int .i64 x) (hh:den g.sig hi=.int .i64 y) (h0:0<=x) (h1:x<=y):den g.sig r=.int .i64 (y-x):=by
 unfold subI at h;split at h;rename_i hz;cases h;rw [Qdm hz] at hl;simp only [den,AVal.int.injEq,true_and] at hl;rw [hh,<-hl];simp;split at h;rename_i hk;obtain ⟨n,k1,k2,k3⟩:=Quv hg hk;rw [hh] at k1;simp only [AVal.int.injEq,true_and] at k1;subst k1;split at h;rename_i y' x' e1 e2;cases h;have e1:=Qcu e1;have e2:=Qcu e2;subst e1;subst e2;simp only [den,AVal.int.injEq,true_and] at hl hh;subst hl;subst hh;rfl;have:=Qdc hg h;simp only [Qb,hl,hh,binS,intA,if_true,Option.some.injEq] at this;rw [<-this]
 congr 1
 simp only [IntKind.wrap,IntKind.bits,IntKind.signed];simp;split<;>omega;cases h
theorem Qbmp (w:World) (hg:ng.Good g.sig) {ts:Array TypeId} {ty:TypeId} {b z:Nat} {ap:Bool} {off n v:AVal} {m:Array Value} (h:Qv9 P ng ts.toList n=some v) (hl:LRel g [.lsl b z ap off n] m.toList):
  ∃v',(Builtin.len_ ts ty m).run P w=.ok v' w/\VRel g v v':=by
 unfold Qv9 at h;split at h;rename_i t e1;obtain ⟨ts⟩:=ts;obtain ⟨m⟩:=m;simp at e1;subst e1;split at h
 ·rename_i e hu
  cases h;cases hl with
  |cons _ u _ _ hx hl=>
   cases hl;cases hx with
   |lsl _ _ _ _ _ o mm cap ao h1 h2 h3 h4 h5=>
    refine ⟨.int .i64 mm,by simp [Builtin.len_,run_underlying hu,goInt],Qjk hg ?_⟩;rw [<-Qn,h2];exact .int _ _
 cases h;cases h
theorem Qbmm (w:World) (hg:ng.Good g.sig) {ty:TypeId} {b z:Nat} {ap:Bool} {off n ix v:AVal} {u iu:Value} (h:Qv6 P ng ty b z off n ix=some v) (hx:VRel g (.lsl b z ap off n) u) (hi:VRel g ix iu):
  ∃v',(Instr.indexAt ty u iu).run P w=.ok v' w/\VRel g v v':=by
 unfold Qv6 at h;split at h;rename_i e hu;split at h;rename_i ie hie;split at h
 ·rename_i hc
  cases h;simp only [Bool.and_eq_true] at hc;obtain ⟨c1,c2,c3,c4,c5⟩:=hc;have c1:=Nat.eq_of_beq_eq_true c1;have c2:0<z:=by simpa [Nat.blt_eq] using c2
  cases hx with
  |lsl _ _ _ _ _ o m cap ao h1 h2 h3 h4 h5=>
   rw [Qdm c3] at h1;simp only [den,AVal.int.injEq,true_and] at h1;have ho:o=0:=by omega
   subst ho;have hk: ∃i:Int,den g.sig ix=.int .i64 i/\iu=.int .i64 i:=by
    obtain ⟨i,hde⟩:=Q2f hg c4;have hd:=Qn.2 hi;rw [hde] at hd;cases hd;exact ⟨i,hde,rfl⟩
   obtain ⟨i,d1,rfl⟩:=hk;have i0:=Qco hg c4 rfl d1;have i1:=Qgd hg c5 d1 h2;obtain ⟨L,k1,k2,k3⟩:=h5 (by omega);subst k2;have hc:(0:Int)<=i/\i<(m:Int):=⟨i0,i1⟩;refine ⟨.pointer (some ⟨L.blk,L.dl+i.toNat*z+0,none⟩),?_,.lptr b z ix 0 i.toNat L k1 (by rw [d1];congr 1;omega) ?_ c2⟩;simp [Instr.indexAt,run_underlying hu,asIntOf,hc,Qbg w hie,Qbs,c1];have:(i.toNat+1)*z<=(0+cap)*z:=Nat.mul_le_mul_right _ (by omega);omega
 cases h;cases h;cases h
theorem Qbmb (w:World) {ty:TypeId} {f:Nat} {fd:Field} {i:TypeInfo} {b z j:Nat} {ix:AVal} {u:Value} (hf:Qe9 P ty f=some fd) (hi:P.info? fd.type=some i) (hz: ¬(i.size=0\/z<=j+fd.offset))
  (hx:VRel g (.lptr b z ix j) u): ∃v,(Instr.fieldAt ty u f).run P w=.ok v w/\VRel g (.lptr b z ix (j+fd.offset)) v:=by
 unfold Qe9 at hf;split at hf
 ·rename_i fs hu
  cases hx with
  |lptr _ _ _ _ m L h1 h2 h3 h4=>
   have hf':fs[f]? =some fd:=by simpa using hf
   refine ⟨.pointer (some ⟨L.blk,L.dl+m*z+(j+fd.offset),none⟩),?_,.lptr b z ix (j+fd.offset) m L h1 h2 h3 (by omega)⟩;have hz0: ¬i.size=0:=fun h=>hz (.inl h);simp [Instr.fieldAt,run_underlying hu,hf',Instr.sureAddr,fieldPlace,Qbg w hi,hz0,Qbs,Nat.add_assoc]
 cases hf
theorem Qfv {d top x:Nat} (h:x<=top):bndA d top (some (.int .i64 (x:Nat)))=some x:=by
 simp only [bndA];rw [if_pos ⟨by omega,by omega⟩];simp
theorem Qlm {d top:Nat}:bndA d top none=some d:=rfl
theorem Qbd3 (hg:ng.Good g.sig) {a b:AVal} {x:Int} (h:leqT ng a b=true) (ha:den g.sig a=.int .i64 x): ∃y,den g.sig b=.int .i64 y:=by
 unfold leqT at h;split at h;rename_i x' y' h1 h2;exact ⟨y',by rw [Qcu h2];rfl⟩;have:=Qmj hg h;simp only [Qb] at this;rw [ha] at this;cases hb:den g.sig b<;>rw [hb] at this<;>simp only [binS,intA,reduceCtorEq] at this;rename_i k n;split at this;rename_i hk;subst hk;exact ⟨n,rfl⟩;cases this
theorem Qwt {a:AVal} {x:Nat} (hd:den g.sig a=.int .i64 x) {o:Option AVal} {o':Option Value} (ho:o=some a) (h:ORel g o o'):ORel g (some (.int .i64 x)) o':=by
 subst ho;cases o' with
 |none=>exact h
 |some v=>
  have h1:VRel g a v:=h;have:=Qn.2 h1;rw [hd] at this;exact this
theorem Qbmn (w:World) (hg:ng.Good g.sig) {ty:TypeId} {b z:Nat} {ap:Bool} {off n v:AVal} {u:Value} {lo hi mx:Option AVal} {lo' hi' mx':Option Value} (hc:Qv7 P ng ty b z ap off n lo hi mx=some v) (hx:VRel g (.lsl b z ap off n) u)
  (hl:ORel g lo lo') (hh:ORel g hi hi') (hm:ORel g mx mx'): ∃v',(Instr.sliceAt ty u lo' hi' mx').run P w=.ok v' w/\VRel g v v':=by
 unfold Qv7 at hc;split at hc;rename_i e hu;split at hc;rename_i ie hie;split at hc
 ·rename_i hcond
  simp only [Bool.and_eq_true] at hcond;obtain ⟨c1,c2,c3,c4,c5⟩:=hcond;have c1:=Nat.eq_of_beq_eq_true c1;have hxx:=hx;cases hx with
  |lsl _ _ _ _ _ o m cap ao h1 h2 h3 h4 h5=>
   rw [Qdm c2] at h1;simp only [den,AVal.int.injEq,true_and] at h1;have ho:o=0:=by omega
   subst ho;obtain ⟨xl,dl⟩:=Q2f hg c3;have l0:=Qco hg c3 rfl dl;have hk: ∃y,den g.sig (hi.getD n)=.int .i64 y:=by
    cases hi with
    |none=>exact ⟨m,h2⟩
    |some a=>
     obtain ⟨y,hy⟩:=Qbd3 hg c4 dl;exact ⟨y,hy⟩
   obtain ⟨xh,dh⟩:=hk;have l1:=Qco hg c4 dl dh;have l2:=Qco hg c5 dh h2;obtain ⟨ln,rfl⟩: ∃ln:Nat,xl=ln:=⟨xl.toNat,by omega⟩;obtain ⟨hn,rfl⟩: ∃hn:Nat,xh=hn:=⟨xh.toNat,by omega⟩;have hl2:ORel g (lo.map fun _=> .int .i64 ln) lo':=by
    cases lo with
    |none=>exact hl
    |some a=>exact Qwt dl rfl hl
   have hh2:ORel g (hi.map fun _=> .int .i64 hn) hi':=by
    cases hi with
    |none=>exact hh
    |some a=>exact Qwt dh rfl hh
   have hln:lo=none->ln=0:=by
    rintro rfl;simp only [Option.getD_none,den,AVal.int.injEq,true_and] at dl;omega
   have hhn:hi=none->hn=m:=by
    rintro rfl;rw [Option.getD_none,h2] at dh;simp only [AVal.int.injEq,true_and] at dh;omega
   split at hc
   --no third index
   have hb:Qb4 m m (lo.map fun _=> .int .i64 ln) (hi.map fun _=> .int .i64 hn) none=some (ln,hn,m):=by
    have hlh:ln<=hn:=by omega
    have hhm:hn<=m:=by omega
    cases hi with
    |none=>
     have:=hhn rfl;subst this;cases lo with
     |none=>have:=hln rfl;subst this;simp [Qb4,Qlm]
     |some a=>simp [Qb4,Qlm,Qfv hlh]
    |some a'=>
     cases lo with
     |none=>have:=hln rfl;subst this;simp [Qb4,Qlm,Qfv hhm]
     |some a=>simp [Qb4,Qlm,Qfv hlh,Qfv hhm]
   have hr:=(Qiq (P:=P) w hb true hl2 hh2 hm h3.1).1;simp only [Option.isSome_none,Bool.false_eq_true,if_false] at hr;have hrun:(Instr.sliceAt ty (.slice ao m cap) lo' hi' mx').run P w=.ok (.slice (ao.map fun a=>if cap=ln then a else a.add (ln*z)) (hn-ln) (cap-ln)) w:=by
    cases ao with
    |none=>simp [Instr.sliceAt,Instr.slice,run_underlying hu,hr,Qbg w hie,c1]
    |some ad=>simp [Instr.sliceAt,Instr.slice,run_underlying hu,hr,Qbg w hie,c1];split<;>simp
   split at hc;rename_i hz;cases hc;simp only [Bool.and_eq_true] at hz;have hl0:ln=0:=by
    rw [Qdm hz.1] at dl;simp only [den,AVal.int.injEq,true_and] at dl;omega
   have hnm:hn=m:=by
    rw [Qoe hz.2,h2] at dh;simp only [AVal.int.injEq,true_and] at dh;omega
   subst hl0;subst hnm;refine ⟨_,hrun,?_⟩;have:(ao.map fun a=>if cap=0 then a else a.add (0*z))=ao:=by
    cases ao with
    |none=>rfl
    |some a=>simp [Addr.add]
   rw [this,Nat.sub_zero,Nat.sub_zero];exact hxx;split at hc;rename_i c hcs;cases hc;have dc:=Qbnw hg hcs dl dh (by omega) (by omega);refine ⟨_,hrun,.lsl b z false _ c ln (hn-ln) (cap-ln) _ dl (by rw [dc];congr 1;omega) ⟨by omega,by omega⟩ (by simp) (fun hp=> ?_)⟩;obtain ⟨L,k1,k2,k3⟩:=h5 (by omega);subst k2;refine ⟨L,k1,?_,?_⟩;simp only [Option.map_some];rw [if_neg (by omega),Qbs];simp;rw [show ln+(cap-ln)=0+cap by omega];exact k3;cases hc;rename_i mm;split at hc;rename_i h';split at hc;rename_i hz;cases hc;simp only [Bool.and_eq_true] at hz;obtain ⟨z1,z2⟩:=hz;have hl0:ln=0:=by
    rw [Qdm z2] at dl;simp only [den,AVal.int.injEq,true_and] at dl;omega
   subst hl0;simp only [Option.getD_some] at dh;have hm2:ORel g (some (.int .i64 hn)) mx':=Qwt (by rw [Qoe z1];exact dh) rfl hm;have hb:Qb4 m m (lo.map fun _=> .int .i64 (0:Nat)) (some (.int .i64 hn)) (some (.int .i64 hn))=some (0,hn,hn):=by
    have hhm:hn<=m:=by omega
    cases lo with
    |none=>simp [Qb4,Qlm,Qfv hhm,Qfv (Nat.le_refl hn)]
    |some a=>simp only [Qb4,Option.map_some,Qfv hhm,Qfv (Nat.le_refl hn),Qfv (Nat.zero_le hn)]
   have hr:=(Qiq (P:=P) w hb true hl2 hh2 hm2 h3.1).1;simp only [Option.isSome_some,if_true] at hr;have hrun:(Instr.sliceAt ty (.slice ao m cap) lo' hi' mx').run P w=.ok (.slice ao hn hn) w:=by
    cases ao with
    |none=>simp [Instr.sliceAt,Instr.slice,run_underlying hu,hr,Qbg w hie,c1]
    |some ad=>simp [Instr.sliceAt,Instr.slice,run_underlying hu,hr,Qbg w hie,c1,Addr.add]
   refine ⟨_,hrun,.lsl b z true off h' 0 hn hn ao (by rw [Qdm c2];rfl) dh ⟨Nat.le_refl _,by omega⟩ (fun _=>⟨rfl,fun h=>h⟩) (fun hp=> ?_)⟩;obtain ⟨L,k1,k2,k3⟩:=h5 (by omega);refine ⟨L,k1,k2,?_⟩;have:(0+hn)*z<=(0+cap)*z:=Nat.mul_le_mul_right _ (by omega);omega;cases hc;cases hc
 cases hc;cases hc;cases hc
theorem Q8n (w:World) {ty:TypeId} {x v:AVal} {u:Value} {lo hi mx:Option AVal} {lo' hi' mx':Option Value} (hc:Qrl P ty lo hi mx=some v) (hs:(∃r,x=.row r)\/ ∃b z ap off n,x=.lsl b z ap off n) (hx:VRel g x u)
  (hl:ORel g lo lo') (hh:ORel g hi hi') (hm:ORel g mx mx'): ∃v',(Instr.sliceAt ty u lo' hi' mx').run P w=.ok v' w/\VRel g v v':=by
 unfold Qrl at hc;cases hc
theorem Qbmt (w:World) (hg:ng.Good g.sig) {ty:TypeId} {r:Nat} {h m v:AVal} {u:Value} {lo:Option AVal} {lo' hi' mx':Option Value} (hc:Qxf P ng ty r lo h m=some v) (hx:VRel g (.row r) u)
  (hl:ORel g lo lo') (hh:ORel g (some h) hi') (hm:ORel g (some m) mx'): ∃v',(Instr.sliceAt ty u lo' hi' mx').run P w=.ok v' w/\VRel g v v':=by
 unfold Qxf at hc;cases hc
theorem Qbbq (hg:ng.Good g.sig) {lo hi:AVal} {k:Nat} {x y:Int} (h:Qtq ng lo hi=some k) (ha:den g.sig lo=.int .i64 x) (hb:den g.sig hi=.int .i64 y) (h0:0<=x) (h1:x<=y):(k:Int)=y-x:=by
 unfold Qtq at h;split at h;rename_i x' y' e1 e2;cases h;have e1:=Qcu e1;have e2:=Qcu e2;subst e1;subst e2;simp only [den,AVal.int.injEq,true_and] at ha hb;subst ha;subst hb;omega;split at h;rename_i j _;split at h;rename_i a c hd;split at h;rename_i hc;cases h;simp only [Bool.and_eq_true,decide_eq_true_eq] at hc;obtain ⟨hq,hc0,hc1⟩:=hc;have:=Qoe hq;subst this;have hs:=hg.sdf j _ hd;have hr:den g.sig (resS (.bin .add a (.int .i64 c)) j)=.int .i64 (IntKind.i64.wrap (x+c)):=by
  have:Qb g.sig (.bin .add a (.int .i64 c))=some (.int .i64 (IntKind.i64.wrap (x+c))):=by
   show binS .add (den g.sig a) (.int .i64 c)=_;rw [ha];simp only [binS,intA,if_true]
  rw [this] at hs;exact (Option.some.inj hs).symm
 have hlike:resS (.bin .add a (.int .i64 c)) j=.symi .i64 j:=by
  simp only [resS];cases a<;>simp only [den,reduceCtorEq,AVal.int.injEq] at ha;obtain ⟨rfl,_⟩:=ha;rfl;obtain ⟨rfl,_⟩:=ha;rfl
 rw [hlike] at hr;rw [hr] at hb;simp only [AVal.int.injEq,true_and] at hb;rw [<-hb] at h1⊢;simp only [IntKind.wrap,IntKind.bits,IntKind.signed] at h1⊢;simp at h1⊢;omega;cases h;cases h;cases h
theorem Qmm (hg:ng.Good g.sig) {i:Nat} {v:AVal} (h:lenS ng i=some v):den g.sig v=.int .i64 ((g.sig.s i).size:Nat):=by
 have plain:symS ng (.sop .len [.syms i])=some v->den g.sig v=.int .i64 ((g.sig.s i).size:Nat):=by
  intro h;have:=Qdc hg h;simp only [Qb,List.map,den,sopA,Option.some.injEq] at this;exact this.symm
 unfold lenS at h;split at h;rename_i b lo hi hd;split at h;rename_i n hn;split at h;rename_i hc;split at h;rename_i k hk;cases h;simp only [Bool.and_eq_true] at hc;obtain ⟨c1,c2,c3⟩:=hc;have hs:=hg.sdf i _ hd;replace hs:sopA g.sig.tab .sub [.str (g.sig.s b),den g.sig lo,den g.sig hi]=some (.str (g.sig.s i)):=hs;cases hx:den g.sig lo<;>cases hy:den g.sig hi<;>rw [hx,hy] at hs<;>simp only [sopA,reduceCtorEq] at hs;rename_i kx x ky y;simp only [Option.some.injEq,AVal.str.injEq] at hs;have hnd:=Q2c hg hn;have kk:kx=.i64/\ky=.i64:=Q2e hg c1 c2 hx hy;obtain ⟨rfl,rfl⟩:=kk;have r1:=Qco hg c1 rfl hx;have r2:=Qco hg c2 hx hy;have r3:=Qco hg c3 hy hnd;have r4:=Qbbq hg hk hx hy r1 r2;have:(g.sig.s i).size=k:=by
  rw [<-hs,ByteArray.size_extract];omega
 rw [this];rfl;exact plain h;exact plain h;exact plain h;exact Q2c hg h
theorem Q2d (hg:ng.Good g.sig) {i:Nat} {v:AVal} (h:lenS ng i=some v):VRel g v (.int .i64 ((g.sig.s i).size:Nat)):=by
 rw [<-Qn,Qmm hg h];exact .int _ _
theorem Q63 (hg:ng.Good g.sig) {a:AVal} (h:okB ng a=true): ∃n:Nat,n<256/\den g.sig a=.int .u8 n/\Qcr (den g.sig a)=UInt8.ofNat n:=by
 unfold okB at h;split at h;rename_i n;simp only [Bool.and_eq_true,decide_eq_true_eq] at h;refine ⟨n.toNat,by omega,?_,rfl⟩;simp only [den,AVal.int.injEq,true_and];omega;rename_i i;split at h;rename_i hk;have:=hg.kd i _ hk;simp only [IntKind.wrap,IntKind.bits,IntKind.signed] at this;simp at this;refine ⟨(g.sig.i i).toNat,by omega,?_,rfl⟩;simp only [den,AVal.int.injEq,true_and];omega;cases h;cases h
theorem Qsv (hg:ng.Good g.sig) {i:Nat} {l:List AVal} (h:ng.sdf i=some (.text l)):g.sig.s i=⟨(l.map fun a=>Qcr (den g.sig a)).toArray⟩:=by
 have:=hg.sdf i _ h;simp only [Qb,resS,den,Option.some.injEq,AVal.str.injEq] at this;exact this.symm
theorem Qbmy (w:World) (hg:ng.Good g.sig) {ty:TypeId} {i:Nat} {ix r:AVal} {u iu:Value} (hu:P.underlying ty=some .string) (h:Qx2 ng i ix=some r) (hx:VRel g (.syms i) u) (hi:VRel g ix iu):
  ∃v,(Instr.index ty u iu).run P w=.ok v w/\VRel g r v:=by
 cases hx;have run: ∀(k:IntKind) (n:Int) (b:UInt8),0<=n->(g.sig.s i)[n.toNat]? =some b->(Instr.index ty (.string (g.sig.s i)) (.int k n)).run P w=.ok (.int .u8 b.toNat) w:=by
  intro k n b h0 hb;simp [Instr.index,run_underlying hu,asIntOf,h0,hb]
 unfold Qx2 at h;split at h;rename_i l n hd hn;have:=Qcu hn;subst this;cases hi;split at h;rename_i h0;have h0:=of_decide_eq_true h0;split at h;rename_i a ha;split at h;rename_i hb;cases h;obtain ⟨m,hm,hd1,hd2⟩:=Q63 hg hb;have ht:=Qsv hg hd;have hlt:=(List.getElem?_eq_some_iff.1 ha).1;have hget:(g.sig.s i)[n.toNat]? =some (UInt8.ofNat m):=by
  rw [ht];have:(ByteArray.mk (l.map fun a=>Qcr (den g.sig a)).toArray)[n.toNat]? =(l.map fun a=>Qcr (den g.sig a))[n.toNat]?:=by
   rw [getElem?_def];have hs:(ByteArray.mk (l.map fun a=>Qcr (den g.sig a)).toArray).size=l.length:=by simp [ByteArray.size]
   rw [dif_pos (by rw [hs];exact hlt)];rw [List.getElem?_eq_getElem (by simpa using hlt)];rfl
  rw [this,List.getElem?_map,ha];simp [hd2]
 refine ⟨_,run _ n _ h0 hget,?_⟩;rw [<-Qn,hd1];have:(UInt8.ofNat m).toNat=m:=by rw [UInt8.toNat_ofNat'];exact Nat.mod_eq_of_lt hm
 rw [this];exact .int _ _;cases h;cases h;cases h;split at h;rename_i n hn;split at h;rename_i hc;rw [Bool.and_eq_true] at hc;have hl:=Qmm hg hn;have hdi: ∃k x,den g.sig ix=.int k x/\iu=.int k x:=by
  have hr:=Qdc hg h;replace hr:sopA g.sig.tab .at [.str (g.sig.s i),den g.sig ix]=some (den g.sig r):=hr;have:=Qn.2 hi;cases hx:den g.sig ix<;>rw [hx] at hr this<;>simp only [sopA,reduceCtorEq] at hr;cases this;exact ⟨_,_,rfl,rfl⟩
 obtain ⟨k,x,hx1,rfl⟩:=hdi;have e1:=Qu1 hg hc.1 rfl hx1;subst e1;have r1:=Qco hg hc.1 rfl hx1;have r2:=Qgd hg hc.2 hx1 hl;have hlt:x.toNat<(g.sig.s i).size:=by omega
 have hget:(g.sig.s i)[x.toNat]? =some ((g.sig.s i)[x.toNat]):=by simp [hlt]
 refine ⟨_,run _ x _ r1 hget,?_⟩;have hr:=Qdc hg h;replace hr:sopA g.sig.tab .at [.str (g.sig.s i),den g.sig ix]=some (den g.sig r):=hr;simp only [hx1,sopA,Option.some.injEq] at hr;rw [<-Qn,<-hr];have:(g.sig.s i).data.toList.getD x.toNat 0=(g.sig.s i)[x.toNat]:=by
  have hlt':x.toNat<(g.sig.s i).data.size:=hlt;simp only [List.getD_eq_getElem?_getD,Array.getElem?_toList];rw [Array.getElem?_eq_getElem hlt'];rfl
 rw [this];exact .int _ _;cases h;cases h
theorem Qbm0 (w:World) (hg:ng.Good g.sig) {ty:TypeId} {i:Nat} {lo hi:Option AVal} {r:AVal} {u:Value} {vl vh:Option Value} (hu:P.underlying ty=some .string) (h:Qx5 ng i lo hi=some r) (hx:VRel g (.syms i) u) (hl:ORel g lo vl) (hh:ORel g hi vh):
  ∃v,(Instr.sliceAt ty u vl vh none).run P w=.ok v w/\VRel g r v:=by
 cases hx;unfold Qx5 at h;split at h;rename_i n hn;have hnd:=Qmm hg hn;split at h;rename_i hc;simp only [Bool.and_eq_true] at hc;obtain ⟨c1,c2,c3⟩:=hc;have num: ∃k x k' y,den g.sig (lo.getD (.int .i64 0))=.int k x/\den g.sig (hi.getD n)=.int k' y/\Qb g.sig (.sop .sub [.syms i,lo.getD (.int .i64 0),hi.getD n])=some (.str ((g.sig.s i).extract x.toNat y.toNat))/\den g.sig r=.str ((g.sig.s i).extract x.toNat y.toNat):=by
  split at h;rename_i l x y hd hx hy;have hx:=Qcu hx;have hy:=Qcu hy;refine ⟨_,x,_,y,by rw [hx];rfl,by rw [hy];rfl,by simp only [hx,hy,Qb,List.map,den,sopA],?_⟩;have hr:=Qdc hg h;simp only [Qb,Option.some.injEq] at hr;rw [<-hr,Qsv hg hd]
  congr 1
  apply ByteArray.ext;simp [ByteArray.data_extract,List.map_take,List.map_drop];rw [List.drop_take];have hr:=Qdc hg h;replace hr:sopA g.sig.tab .sub [.str (g.sig.s i),den g.sig (lo.getD (.int .i64 0)),den g.sig (hi.getD n)]=some (den g.sig r):=hr;cases hx:den g.sig (lo.getD (.int .i64 0))<;>cases hy:den g.sig (hi.getD n)<;>rw [hx,hy] at hr<;>simp only [sopA,reduceCtorEq] at hr;rename_i k x k' y;exact ⟨k,x,k',y,rfl,rfl,by show sopA g.sig.tab .sub [.str (g.sig.s i),den g.sig (lo.getD (.int .i64 0)),den g.sig (hi.getD n)]=_;rw [hx,hy];rfl,(Option.some.inj hr).symm⟩
 obtain ⟨k,x,k',y,hx,hy,_,hr⟩:=num;obtain ⟨rfl,rfl⟩:=Q2e hg c1 c2 hx hy;have r1:=Qco hg c1 rfl hx;have r2:=Qco hg c2 hx hy;have r3:=Qco hg c3 hy hnd;refine ⟨.string ((g.sig.s i).extract x.toNat y.toNat),?_,by rw [<-Qn,hr];exact .str _⟩;have bl: ∀(top:Nat),y.toNat<=top->True:=fun _ _=>trivial;have hlo:(match vl with
   |some v=>Instr.sliceBound v y.toNat .sliceB
   |none=>pure 0:Sem Nat).run P w=.ok x.toNat w:=by
  cases lo with
  |none=>
   cases vl with
   |none=>simp only [Option.getD,den,AVal.int.injEq,true_and] at hx;subst hx;simp
   |some v=>exact hl.elim
  |some a=>
   cases vl with
   |none=>exact hl.elim
   |some v=>
    have hv:VRel g a v:=hl;simp only [Option.getD] at hx;have:=Qn.2 hv;rw [hx] at this;cases this;exact run_sliceBound w _ _ _ .sliceB r1 (by omega)
 have hhi:(match vh with
   |some v=>Instr.sliceBound v (g.sig.s i).size .sliceAlen
   |none=>pure (g.sig.s i).size:Sem Nat).run P w=.ok y.toNat w:=by
  cases hi with
  |none=>
   cases vh with
   |none=>simp only [Option.getD,hnd,AVal.int.injEq,true_and] at hy;subst hy;simp
   |some v=>exact hh.elim
  |some a=>
   cases vh with
   |none=>exact hh.elim
   |some v=>
    have hv:VRel g a v:=hh;simp only [Option.getD] at hy;have:=Qn.2 hv;rw [hy] at this;cases this;exact run_sliceBound w _ _ _ .sliceAlen (by omega) (by omega)
 cases vl<;>cases vh<;>simp_all [Instr.sliceAt,Instr.slice,Instr.sliceBounds,run_underlying hu];cases h;cases h
theorem Qzg (hg:ng.Good g.sig) {a:AVal} {l:List AVal} (h:Qpb ng a=some l):den g.sig a=.str ⟨(l.map fun a=>Qcr (den g.sig a)).toArray⟩:=by
 unfold Qpb at h;split at h
 ·rename_i s
  cases h;simp only [den,AVal.str.injEq];apply ByteArray.ext;apply Array.ext';show s.data.toList=(s.data.toList.map fun b=>AVal.int .u8 b.toNat).map fun a=>Qcr (den g.sig a);generalize s.data.toList=l;induction l with
  |nil=>rfl
  |cons b l ih=>
   simp only [List.map_cons,den,Qcr,List.cons.injEq];exact ⟨by simp,ih⟩
 rename_i i;split at h;rename_i l' hd;cases h;show AVal.str (g.sig.s i)=_;rw [Qsv hg hd];cases h;cases h
theorem Q13 {a:AVal} (h:Qh6 a=true) (V:Sig): ∃s,den V a=.str s:=by
 unfold Qh6 at h;split at h;exact ⟨_,rfl⟩;exact ⟨_,rfl⟩;cases h
theorem Qbl6 (w:World) (hg:ng.Good g.sig) {op:BinOp} {ty:TypeId} {a b r:AVal} {u v:Value} (hc:Qus op a=true) (h:catS ng a b=some r) (ha:VRel g a u) (hb:VRel g b v):
  ∃x,(binOp op ty u v).run P w=.ok x w/\VRel g r x:=by
 have hop:op=.add/\Qh6 a=true:=by
  unfold Qus at hc;split at hc;exact ⟨rfl,hc⟩;cases hc
 obtain ⟨rfl,hsa⟩:=hop;unfold catS at h;split at h;rename_i hsb;obtain ⟨s,hs⟩:=Q13 hsa g.sig;obtain ⟨t,ht⟩:=Q13 hsb g.sig;have ha':=Qn.2 ha;have hb':=Qn.2 hb;rw [hs] at ha';rw [ht] at hb';have fin:s.size+t.size<=9223372036854775807->den g.sig r=.str (s++t)-> ∃x,(binOp .add ty u v).run P w=.ok x w/\VRel g r x:=by
  intro hle hr;obtain ⟨x,k1,k2⟩:=Qxp (P:=P) (t:=ty) (op:=.add) w (show strA .add s t=some (.str (s++t)) by simp only [strA];rw [if_pos hle]) (g:=g);cases ha';cases hb';exact ⟨x,k1,by rw [<-Qn,hr];exact k2⟩
 split at h;rename_i l m hl hm;split at h;rename_i hle;have hle:=of_decide_eq_true hle;have e1:=Qzg hg hl;have e2:=Qzg hg hm;rw [hs] at e1;rw [ht] at e2;simp only [AVal.str.injEq] at e1 e2;have hr:=Qdc hg h;refine fin (by rw [e1,e2];simpa [ByteArray.size] using hle) ?_;simp only [Qb,Option.some.injEq] at hr;rw [<-hr,e1,e2]
 congr 1
 apply ByteArray.ext;simp [ByteArray.data_append];cases h;split at h;rename_i c hcat;split at h;rename_i n hn;split at h;rename_i hle;cases h;have hr:=Qdc hg hcat;replace hr:sopA g.sig.tab .cat [den g.sig a,den g.sig b]=some (.str (g.sig.s c)):=hr;rw [hs,ht] at hr;simp only [sopA,Option.some.injEq,AVal.str.injEq] at hr;have hnd:=Qdc hg hn;replace hnd:sopA g.sig.tab .len [.str (g.sig.s c)]=some (den g.sig n):=hnd;simp only [sopA,Option.some.injEq] at hnd;have:=Qco hg hle hnd.symm rfl;rw [<-hr,ByteArray.size_append] at this;exact fin (by omega) (by show AVal.str (g.sig.s c)=_;rw [hr]);cases h;cases h;cases h;cases h
theorem Qy1 (hg:ng.Good g.sig) {i:Nat}: ∀{n j:Nat} {l:List AVal},atsN ng i n j=some l->l.length=n/\ ∀k a,l[k]? =some a->den g.sig a=.int .u8 (((g.sig.s i).data.toList.getD (j+k) 0).toNat:Nat)
 |0,j,l,h=>by simp only [atsN,Option.some.injEq] at h;subst h;exact ⟨rfl,fun k a h=>by simp at h⟩
 |n+1,j,l,h=>by
  simp only [atsN] at h;split at h
  ·rename_i a l' ha hl
   cases h;obtain ⟨h1,h2⟩:=Qy1 hg hl;have hr:=Qdc hg ha;replace hr:sopA g.sig.tab .at [.str (g.sig.s i),.int .i64 j]=some (den g.sig a):=hr;simp only [sopA,Option.some.injEq,Int.toNat_natCast] at hr;refine ⟨by simp [h1],fun k b hb=> ?_⟩;cases k with
   |zero=>
    simp only [List.getElem?_cons_zero,Option.some.injEq] at hb;subst hb;rw [<-hr,Nat.add_zero]
   |succ k=>
    simp only [List.getElem?_cons_succ] at hb;have:=h2 k b hb;rw [show j+1+k=j+(k+1) by omega] at this;exact this
  cases h
theorem Qym: ∀{l:List AVal},allB ng l=true-> ∀a∈l,okB ng a=true
 |[],_,a,h=>by cases h
 |b::l,h,a,ha=>by
  simp only [allB,Bool.and_eq_true] at h;rcases List.mem_cons.1 ha with rfl|ha
  exact h.1;exact Qym h.2 a ha
theorem Qbnv (hg:ng.Good g.sig) {i:Nat} {l:List AVal} (h:Qx1 ng i=some l):l.length=(g.sig.s i).size/\ ∀(k:Nat) (a:AVal),l[k]? =some a-> ∃b:UInt8,(g.sig.s i).data.toList[k]? =some b/\VRel g a (.int .u8 b.toNat):=by
 unfold Qx1 at h;split at h;rename_i l' hd;split at h;rename_i hb;cases h;have ht:=Qsv hg hd;refine ⟨by rw [ht];simp [ByteArray.size],fun k a ha=> ?_⟩;obtain ⟨m,hm,d1,d2⟩:=Q63 hg (Qym hb a (List.mem_of_getElem? ha));refine ⟨UInt8.ofNat m,?_,?_⟩;rw [ht];simp [ha,d2];rw [<-Qn,d1];have:(UInt8.ofNat m).toNat=m:=by rw [UInt8.toNat_ofNat'];exact Nat.mod_eq_of_lt hm
 rw [this];exact .int _ _;cases h;split at h;rename_i n hn;have hd:=Q2d hg hn;have hf:=Qjk hg hd;split at h;rename_i m hm;rw [hm] at hf;split at h;obtain ⟨h1,h2⟩:=Qy1 hg h;have hsz:m=((g.sig.s i).size:Nat):=by cases hf;rfl
 have e1:l.length=(g.sig.s i).size:=by rw [h1,hsz];rfl
 refine ⟨e1,fun k a ha=> ?_⟩;have hk:k<(g.sig.s i).data.size:=by
  have:=(List.getElem?_eq_some_iff.1 ha).1;rw [e1] at this;exact this
 have hb:=h2 k a ha;rw [Nat.zero_add] at hb;refine ⟨(g.sig.s i).data[k],by simp [hk],?_⟩;rw [<-Qn,hb];simp only [List.getD_eq_getElem?_getD,Array.getElem?_toList,Array.getElem?_eq_getElem hk,Option.getD_some];exact .int _ _;cases h;cases h;cases h
theorem Qbmz (w:World) (hg:ng.Good g.sig) {ts:Array TypeId} {ty:TypeId} {i:Nat} {v:AVal} {m:Array Value} (h:Qx3 P ng ts.toList i=some v) (hl:LRel g [.syms i] m.toList):
  ∃v',(Builtin.len_ ts ty m).run P w=.ok v' w/\VRel g v v':=by
 unfold Qx3 at h;split at h;rename_i t e1;obtain ⟨ts⟩:=ts;obtain ⟨m⟩:=m;simp at e1;subst e1;split at h
 ·rename_i hu
  cases hl with
  |cons _ u _ _ hx hl=>
   cases hl;cases hx;exact ⟨_,by simp [Builtin.len_,run_underlying hu,goInt],Q2d hg h⟩
 cases h;cases h
theorem Qbmi (w:World) {ts:Array TypeId} {ty:TypeId} {l:List AVal} {m:Array Value} {r:AVal} (h:lenA P ts.toList l=some r) (hl:LRel g l m.toList):
  ∃v,(Builtin.len_ ts ty m).run P w=.ok v w/\VRel g r v:=by
 unfold lenA at h;split at h
 ·rename_i tt x e1
  obtain ⟨ts⟩:=ts;obtain ⟨m⟩:=m;simp at e1;subst e1;cases hl with
  |cons _ u _ _ hx hn=>
   cases hn;split at h;rename_i s hu;cases h;cases hx;exact ⟨_,by simp [Builtin.len_,run_underlying hu,goInt],.int _ _⟩;rename_i n e hu;cases h;exact ⟨_,by simp [Builtin.len_,run_underlying hu,goInt],.int _ _⟩;rename_i e b off n cap ex hu;cases h;cases hx;exact ⟨_,by simp [Builtin.len_,run_underlying hu,goInt],.int _ _⟩;rename_i e hu;cases h;cases hx;exact ⟨_,by simp [Builtin.len_,run_underlying hu,goInt],.int _ _⟩;rename_i e hu;cases h;cases hx;exact ⟨_,by simp [Builtin.len_,run_underlying hu,goInt],.int _ _⟩;cases h
 cases h
theorem Q8m (w:World) {ts:Array TypeId} {ty:TypeId} {l:List AVal} {m:Array Value} {r:AVal} (h:minA l=some r) (hl:LRel g l m.toList):
  ∃v,(Builtin.min_ ts ty m).run P w=.ok v w/\VRel g r v:=by
 obtain ⟨m⟩:=m;unfold minA at h;split at h
 ·cases h
  cases hl with
  |cons _ _ _ _ h1 hl=>cases hl with
   |cons _ _ _ _ h2 hl=>cases hl;cases h1;cases h2;exact ⟨_,by simp [Builtin.min_,Builtin.min2],.int _ _⟩
 ·cases h
  cases hl with
  |cons _ _ _ _ h1 hl=>cases hl with
   |cons _ _ _ _ h2 hl=>cases hl with
    |cons _ _ _ _ h3 hl=>cases hl;cases h1;cases h2;cases h3;exact ⟨_,by simp [Builtin.min_,Builtin.min2],.int _ _⟩
 cases h
theorem Q8l (w:World) {ts:Array TypeId} {ty:TypeId} {l:List AVal} {m:Array Value} {r:AVal} (h:maxA l=some r) (hl:LRel g l m.toList):
  ∃v,(Builtin.max_ ts ty m).run P w=.ok v w/\VRel g r v:=by
 obtain ⟨m⟩:=m;unfold maxA at h;split at h
 ·cases h
  cases hl with
  |cons _ _ _ _ h1 hl=>cases hl with
   |cons _ _ _ _ h2 hl=>cases hl;cases h1;cases h2;exact ⟨_,by simp [Builtin.max_,Builtin.max2],.int _ _⟩
 ·cases h
  cases hl with
  |cons _ _ _ _ h1 hl=>cases hl with
   |cons _ _ _ _ h2 hl=>cases hl with
    |cons _ _ _ _ h3 hl=>cases hl;cases h1;cases h2;cases h3;exact ⟨_,by simp [Builtin.max_,Builtin.max2],.int _ _⟩
 cases h
theorem Qbm3 (w:World) (hg:ng.Good g.sig) {op:UnOp} {a r:AVal} {u:Value} (h:unU ng op a=some r) (ha:VRel g a u): ∃v,(Op.unary op u).run P w=.ok v w/\VRel g r v:=by
 unfold unU at h;split at h;obtain ⟨q,h1,h2⟩:=Qcp hg h;obtain ⟨v,k1,k2⟩:=Q8o (P:=P) (g:=g) w h1 (Qn.2 ha);exact ⟨v,k1,h2 v k2⟩;exact Q8o w h ha
theorem Qbl7 (w:World) (hg:ng.Good g.sig) {src dst:TypeId} {a r:AVal} {u:Value} (h:Qtn P ng src dst a=some r) (ha:VRel g a u): ∃v,(convert src dst u).run P w=.ok v w/\VRel g r v:=by
 unfold Qtn at h;split at h;split at h;rename_i d k hs hd;obtain ⟨q,h1,h2⟩:=Qcp hg h;have h3:Qhz P src dst (den g.sig a)=some q:=by
  simp only [Qb] at h1;unfold Qjc at h1;split at h1;rename_i he;rw [he];simp only [Qhz,hs,hd];exact h1;cases h1
 obtain ⟨v,k1,k2⟩:=Qxm (P:=P) (g:=g) w h3 (Qn.2 ha);exact ⟨v,k1,h2 v k2⟩;rename_i d hs hd;split at h;rename_i i _;cases h;have h3:Qhz P src dst (den g.sig (.syms i))=some (den g.sig (.syms i)):=by simp only [den,Qhz,hs,hd]
 obtain ⟨v,k1,k2⟩:=Qxm (P:=P) (g:=g) w h3 (Qn.2 ha);exact ⟨v,k1,Qn.1 k2⟩;cases h;cases h;exact Qxm w h ha
theorem Qbmd (w:World) {op:BinOp} {t:TypeId} {a b r:AVal} {u v:Value} (h:geqA op a b=some r) (ha:VRel g a u) (hb:VRel g b v):
  ∃x,(binOp op t u v).run P w=.ok x w/\VRel g r x:=by
 unfold geqA at h;split at h;rename_i n;split at h;rename_i x;split at h
 ·rename_i hd
  cases h;cases ha;cases hb with
  |geq _ m hm=>
  have hx:x<=(n:Int):=by simpa using hd
  obtain ⟨y,h1,h2⟩:=Qxo (P:=P) (g:=g) w (op:=.gtr) (t:=t) (k:=.i64) (k':=.i64) (a:=x) (b:=(m:Int)) (r:=.bool (decide (x>(m:Int)))) rfl;have:decide (x>(m:Int))=false:=by rw [decide_eq_false_iff_not];omega
  rw [this] at h2;exact ⟨y,h1,h2⟩
 cases h;cases h;cases h
theorem Qbl5 (w:World) {ts:Array TypeId} {ty:TypeId} {l:List AVal} {m:Array Value} {r:AVal} (h:capA P ts.toList l=some r) (hl:LRel g l m.toList):
  ∃v,(Builtin.cap_ ts ty m).run P w=.ok v w/\VRel g r v:=by
 unfold capA at h;split at h
 ·rename_i tt x e1
  obtain ⟨ts⟩:=ts;obtain ⟨m⟩:=m;simp at e1;subst e1;cases hl with
  |cons _ u _ _ hx hn=>
  cases hn;split at h
  ·rename_i hu
   cases h;cases hx with
   |slice _ _ _ _ _ _ cap' _ _ _ h1 _=>
    have:=h1 rfl;subst this;exact ⟨_,by simp [Builtin.cap_,run_underlying hu,goInt],.int _ _⟩
  ·rename_i hu
   cases h;cases hx with
   |slice _ _ _ _ _ _ cap' _ _ _ _ h2=>
    exact ⟨_,by simp [Builtin.cap_,run_underlying hu,goInt],.geq _ _ (h2 _ rfl).1⟩
  rename_i hu;cases h;cases hx;exact ⟨_,by simp [Builtin.cap_,run_underlying hu,goInt],.int _ _⟩;cases h
 cases h
theorem Qbl1 (w:World) (hg:ng.Good g.sig) {op:BinOp} {t:TypeId} {a b r:AVal} {u v:Value} (h:binU P ng op t a b=some r) (ha:VRel g a u) (hb:VRel g b v):
  ∃x,(binOp op t u v).run P w=.ok x w/\VRel g r x:=by
 unfold binU at h;split at h;split at h;rename_i hq;cases h;exact Qbmd w hq ha hb;split at h;rename_i hc;exact Qbl6 w hg hc h ha hb;exact Qbm1 w hg h ha hb;rename_i h0;split at h;rename_i hv;cases h;exact Qblz w hv ha hb h0;exact Qblx w hg h ha hb
theorem Qbml (w:World) (hg:ng.Good g.sig) {ts:Array TypeId} {ty:TypeId} {l:List AVal} {m:Array Value} {r:AVal} (h:lowU ng l=some r) (hl:LRel g l m.toList):
  ∃v,(Builtin.min_ ts ty m).run P w=.ok v w/\VRel g r v:=by
 unfold lowU at h;split at h;obtain ⟨q,h1,h2⟩:=Qcp hg h;obtain ⟨v,k1,k2⟩:=Q8m (P:=P) (g:=g) (ts:=ts) (ty:=ty) w h1 hl.dens;exact ⟨v,k1,h2 v k2⟩;exact Q8m w h hl
theorem Qbmf (w:World) (hg:ng.Good g.sig) {ts:Array TypeId} {ty:TypeId} {l:List AVal} {m:Array Value} {r:AVal} (h:Qul ng l=some r) (hl:LRel g l m.toList):
  ∃v,(Builtin.max_ ts ty m).run P w=.ok v w/\VRel g r v:=by
 unfold Qul at h;split at h;obtain ⟨q,h1,h2⟩:=Qcp hg h;obtain ⟨v,k1,k2⟩:=Q8l (P:=P) (g:=g) (ts:=ts) (ty:=ty) w h1 hl.dens;exact ⟨v,k1,h2 v k2⟩;exact Q8l w h hl
theorem Qbk2 {c:Bool} {x y:Operand} {r:AVal} (hρ:ERel g ng t ρ) (h:Qw2 c (ev ng t x) (ev ng t y)=some r):VRel g r (if c then ρ x else ρ y):=by
 unfold Qw2 at h;split at h;rename_i a b ha hb;cases h;have h1:=hρ x _ ha;have h2:=hρ y _ hb;cases c;simpa using h2;simpa using h1;split at h;simpa using hρ x _ h;simpa using hρ y _ h
theorem Qp0 (w:World) {asserted:TypeId} {ok:Bool} {r:AVal} (h:Qjl P asserted ok=some r) (static dynamic:Option TypeId) (missing:String):
  ∃v,((do if ok then pure (.tuple #[<-zeroValue asserted,.bool false]) else runtimePanic (.typeAssertion static dynamic asserted missing)):Sem Value).run P w=.ok v w/\VRel g r v:=by
 unfold Qjl at h;split at h;split at h;rename_i z hz;cases h;obtain ⟨i,zv,hi,hzv,hzr⟩:=Qht hz;exact ⟨.tuple #[zv,.bool false],by simp [zeroValue,typeInfo,hi,hzv],.tuple _ _ (.cons _ _ _ _ (hzr g) (.cons _ _ _ _ (.bool _) .nil))⟩;cases h;cases h
theorem Qbly (w:World) {x:AVal} {u:Value} {xT asserted:TypeId} {ok:Bool} {r:AVal} (h:Qtc P x asserted ok=some r) (hx:VRel g x u):
  ∃v,(Instr.typeAssert u xT asserted ok).run P w=.ok v w/\VRel g r v:=by
 have hold: ∀(y:AVal) (z:Value),VRel g y z->VRel g (Qum y ok) (if ok then .tuple #[z,.bool true] else z):=by
  intro y z hy;cases ok;exact hy;exact .tuple _ _ (.cons _ _ _ _ hy (.cons _ _ _ _ (.bool _) .nil))
 unfold Qtc at h;split at h;rename_i want hu;split at h;cases hx;obtain ⟨v,h1,h2⟩:=Qp0 (P:=P) (g:=g) w h none none "";exact ⟨v,by simpa [Instr.typeAssert,run_underlying hu] using h1,h2⟩
 ·rename_i t v
  cases hx with
  |iface _ _ v' hv=>
  split at h;rename_i i hi;split at h;rename_i hl;cases h;refine ⟨_,?_,hold _ (.iface t v') (.iface _ _ _ hv)⟩;have hl':=missingMethod_none (List.isEmpty_iff.1 hl);cases ok<;>simp [Instr.typeAssert,run_underlying hu,typeInfo,hi,hl'];rename_i hl;obtain ⟨m,hm⟩:=missingMethod_some (want:=want) (got:=i.methods) (by intro e;simp [Q16,e] at hl);obtain ⟨v,h1,h2⟩:=Qp0 (P:=P) (g:=g) w h none (some t) m;exact ⟨v,by simpa [Instr.typeAssert,run_underlying hu,typeInfo,hi,hm] using h1,h2⟩;cases h
 cases h;rename_i d hne hu;split at h;cases hx;obtain ⟨v,h1,h2⟩:=Qp0 (P:=P) (g:=g) w h (some xT) none "";refine ⟨v,?_,h2⟩;cases d<;>first|exact absurd rfl (hne _)|simpa [Instr.typeAssert,run_underlying hu] using h1
 ·rename_i t v
  cases hx with
  |iface _ _ v' hv=>
  split at h;rename_i he;have he:=Nat.eq_of_beq_eq_true he;cases h;refine ⟨_,?_,hold _ v' hv⟩;cases ok<;>cases d<;>first|exact absurd rfl (hne _)|simp [Instr.typeAssert,run_underlying hu,he]
  rename_i he;have he: ¬t=asserted:=by intro e;subst e;simp at he
  obtain ⟨v,h1,h2⟩:=Qp0 (P:=P) (g:=g) w h (some xT) (some t) "";refine ⟨v,?_,h2⟩;cases d<;>first|exact absurd rfl (hne _)|simpa [Instr.typeAssert,run_underlying hu,he] using h1
 cases h;cases h
theorem Qbj4 {w:World} {t:TypeId} {v:AVal} {u:Value} {name:String} (h:Qwp P t v name=true) (hv:VRel g v u):(nilAhead (P.types.size+Made.depth) t u name).run P w=.ok (some false) w:=by
 obtain ⟨n,hn⟩: ∃n,P.types.size+Made.depth=n+1:=⟨P.types.size+Made.depth-1,by unfold Made.depth;omega⟩;rw [hn];unfold Qwp at h;split at h;rename_i info hi;split at h;rename_i m hm;split at h;rename_i hp;split at h
 ·rename_i f pr hf
  simp only [nilAhead,typeInfo,Sem.run_bind,run_program,Result.andThen_ok,hi,hm,hp,followBlind,Sem.run_pure,hf];cases pr with
  |true=>simp
  |false=>
   simp only at h;split at h;rename_i e hu;split at h;cases hv;simp [run_underlying hu];cases h;rename_i d hne hu;simp only [run_underlying hu,Sem.run_bind,Result.andThen_ok];cases d<;>first
    |exact absurd rfl (hne _)
    |rfl
   cases h
 cases h;cases h;cases h;cases h
theorem Qbmo (w:World) (hg:ng.Good g.sig) {ty:TypeId} {b z:Nat} {ap:Bool} {off n v:AVal} {u:Value} {lo hi mx:Option AVal} {lo' hi' mx':Option Value} (hc:Qv8 P ng ty b z off n lo hi mx=some v) (hx:VRel g (.lsl b z ap off n) u)
  (hl:ORel g lo lo') (hh:ORel g hi hi') (hm:ORel g mx mx'): ∃v',(Instr.sliceAt ty u lo' hi' mx').run P w=.ok v' w/\VRel g v v':=by
 unfold Qv8 at hc;cases hc
theorem Qbmq (w:World) (hg:ng.Good g.sig) {op:BinOp} {t:TypeId} {a b v:AVal} {u u':Value} (h:Qwa P ng op t a b=some v) (ha:VRel g a u) (hb:VRel g b u'): ∃x,(binOp op t u u').run P w=.ok x w/\VRel g v x:=by
 unfold Qwa at h;split at h;rename_i e b' z ap off n hu;split at h
 ·rename_i hl
  cases hb;cases ha with
  |lsl _ _ _ _ _ o m cap ao h1 h2 h3 h4 h5=>
   have h0:=Qgd hg hl rfl h2;obtain ⟨L,k1,k2,k3⟩:=h5 (by omega);clear h5;subst k2;have key: ∀d,(Op.equalIn (d+1) t (.slice (some ⟨L.blk,L.dl+o*z,none⟩) m cap) (.slice none 0 0)).run P w=.ok false w:=fun d=>by simp [Op.equalIn,run_underlying hu]
   have key:=key 9999;split at h;cases h;exact ⟨_,by simp [binOp,Op.equal,Op.maxDepth,key],.bool _⟩;cases h;exact ⟨_,by simp [binOp,Op.equal,Op.maxDepth,key],.bool _⟩;cases h
 cases h;cases h
theorem Q7w (w:World) (hρ:ERel g ng t ρ) {o:Oper} {r:AVal} (h:Qgl P ng t o.op=some r): ∃v,(execOp ρ o).run P w=.ok (.value v) w/\VRel g r v:=by
 obtain ⟨dst,op,type,pos,after,guard⟩:=o;simp only at h;unfold Qgl at h;split at h;rename_i x;exact ⟨ρ x,by simp [execOp],hρ x _ h⟩;rename_i x;exact ⟨ρ x,by simp [execOp],hρ x _ h⟩;rename_i c a b;split at h;rename_i cb hc;have h1:=hρ c _ hc;refine ⟨if cb then ρ a else ρ b,?_,Qbk2 hρ h⟩;cases hh:ρ c<;>rw [hh] at h1<;>cases h1;simp [execOp,hh,asBool];cases h;rename_i op xt x y yt;split at h;rename_i a b ha hb;split at h;rename_i hg;have h1:=Qbme (P:=P) w hg (hρ x _ ha) (hρ y _ hb);split at h;rename_i v' hv';cases h;obtain ⟨v,h2,h3⟩:=Qbmq (P:=P) w hρ.sig hv' (hρ x _ ha) (hρ y _ hb);exact ⟨v,by simp [execOp,h1,h2],h3⟩;obtain ⟨v,h2,h3⟩:=Qbl1 (P:=P) w hρ.sig h (hρ x _ ha) (hρ y _ hb);exact ⟨v,by simp [execOp,h1,h2],h3⟩;cases h;cases h;rename_i op xt x;split at h;rename_i a ha;obtain ⟨v,h2,h3⟩:=Qbm3 (P:=P) w hρ.sig h (hρ x _ ha);exact ⟨v,by simp [execOp,h2],h3⟩;cases h;rename_i src dst x;split at h;rename_i a ha;obtain ⟨v,h2,h3⟩:=Qbl7 (P:=P) w hρ.sig h (hρ x _ ha);exact ⟨v,by simp [execOp,h2],h3⟩;cases h;rename_i xt x;split at h;rename_i a ha;split at h;rename_i hc;cases h;exact ⟨.iface xt (ρ x),by simp [execOp,run_makeInterface w xt (ρ x) hc],.iface _ _ _ (hρ x _ ha)⟩;cases h;cases h;rename_i fn fs cs;split at h;rename_i a b ha hb;cases h;refine ⟨.func fn (fs.map ρ) (cs.map ρ),by simp [execOp,Instr.makeFunc],.func _ _ _ _ _ ?_ ?_⟩;simpa using Qb9 hρ _ _ ha;simpa using Qb9 hρ _ _ hb;cases h;rename_i ty x lo hi mx;split at h;rename_i r' hh ha hl hhi hm
 obtain ⟨v,h2,h3⟩:=Qbmu (P:=P) w hρ.sig h (hρ x _ ha) (Qby hρ hl) (Qby hρ hhi) (Qby hρ hm);exact ⟨v,by simp [execOp,h2],h3⟩;rename_i l hh m r' ha hl hhi hm;split at h;rename_i v' hv';cases h;obtain ⟨v,h2,h3⟩:=Q8n (P:=P) w hv' (.inl ⟨_,rfl⟩) (hρ x _ ha) (Qby hρ hl) (Qby hρ hhi) (Qby hρ hm);exact ⟨v,by simp [execOp,h2],h3⟩;split at h;obtain ⟨v,h2,h3⟩:=Qbmt (P:=P) w hρ.sig h (hρ x _ ha) (Qby hρ hl) (Qby hρ hhi) (Qby hρ hm);exact ⟨v,by simp [execOp,h2],h3⟩;cases h;rename_i b z ap off n l hh m ha hl hhi hm;split at h;rename_i v' hv';cases h;obtain ⟨v,h2,h3⟩:=Q8n (P:=P) w hv' (.inr ⟨b,z,ap,off,n,rfl⟩) (hρ x _ ha) (Qby hρ hl) (Qby hρ hhi) (Qby hρ hm);exact ⟨v,by simp [execOp,h2],h3⟩;split at h;rename_i v' hv';cases h;obtain ⟨v,h2,h3⟩:=Qbmn (P:=P) w hρ.sig hv' (hρ x _ ha) (Qby hρ hl) (Qby hρ hhi) (Qby hρ hm);exact ⟨v,by simp [execOp,h2],h3⟩;obtain ⟨v,h2,h3⟩:=Qbmo (P:=P) w hρ.sig h (hρ x _ ha) (Qby hρ hl) (Qby hρ hhi) (Qby hρ hm);exact ⟨v,by simp [execOp,h2],h3⟩;rename_i i' l hh ha hl hhi hm;split at h;rename_i hu;obtain ⟨v,h2,h3⟩:=Qbm0 (P:=P) w hρ.sig hu h (hρ x _ ha) (Qby hρ hl) (Qby hρ hhi);have hmx:mx.map ρ=none:=by
  cases hm2:mx with
  |none=>rfl
  |some y=>rw [hm2] at hm;simp only [evO] at hm;split at hm<;>cases hm
 exact ⟨v,by simp [execOp,hmx,h2],h3⟩;cases h;rename_i a l hh m ha hl hhi hm;obtain ⟨v,h2,h3⟩:=Qbmx (P:=P) w h (hρ x _ ha) (Qby hρ hl) (Qby hρ hhi) (Qby hρ hm);exact ⟨v,by simp [execOp,h2],h3⟩;cases h;rename_i ty x f;split at h;rename_i fd b off hf hx;split at h;rename_i i hi;split at h;cases h;rename_i hz;cases h;obtain ⟨v,h2,h3⟩:=Qbma (P:=P) w hf hi hz (hρ x _ hx);exact ⟨v,by simp [execOp,h2],h3⟩;cases h;rename_i fd r' ix j hf hx;split at h;rename_i i hi;split at h;cases h;rename_i hz;cases h;obtain ⟨v,h2,h3⟩:=Qbmc (P:=P) w hf hi hz (hρ x _ hx);exact ⟨v,by simp [execOp,h2],h3⟩;cases h;rename_i fd b z ix j hf hx;split at h;rename_i i hi;split at h;cases h;rename_i hz;cases h;obtain ⟨v,h2,h3⟩:=Qbmb (P:=P) w hf hi hz (hρ x _ hx);exact ⟨v,by simp [execOp,h2],h3⟩;cases h;cases h;rename_i ty x f;split at h;rename_i fd cs hf hx;split at h;rename_i d hd;obtain ⟨v,h2,h3⟩:=Qbl9 (P:=P) w hf ⟨d,hd⟩ h (hρ x _ hx);exact ⟨v,by simp [execOp,h2],h3⟩;cases h;cases h;rename_i ty x ix;split at h;rename_i r' i ha hi;obtain ⟨v,h2,h3⟩:=Qbms (P:=P) w hρ.sig h (hρ x _ ha) (hρ ix _ hi);exact ⟨v,by simp [execOp,h2],h3⟩;rename_i b z ap off n i ha hi;obtain ⟨v,h2,h3⟩:=Qbmm (P:=P) w hρ.sig h (hρ x _ ha) (hρ ix _ hi);exact ⟨v,by simp [execOp,h2],h3⟩;rename_i a i ha hi;obtain ⟨v,h2,h3⟩:=Qbmh (P:=P) w h (hρ x _ ha) (hρ ix _ hi);exact ⟨v,by simp [execOp,h2],h3⟩;cases h;rename_i ty x ix;split at h;rename_i i' j' ha hi;split at h;rename_i hu
 obtain ⟨v,h2,h3⟩:=Qbmy (P:=P) w hρ.sig hu h (hρ x _ ha) (hρ ix _ hi);exact ⟨v,by simp [execOp,h2],h3⟩;cases h;rename_i a i ha hi;obtain ⟨v,h2,h3⟩:=Qbmg (P:=P) w h (hρ x _ ha) (Qjk hρ.sig (hρ ix _ hi));exact ⟨v,by simp [execOp,h2],h3⟩;cases h;rename_i x i;split at h;rename_i l hx;have h1:=hρ x _ hx;cases hh:ρ x<;>rw [hh] at h1<;>cases h1;rename_i m hm;obtain ⟨v,hv,hr⟩:=hm.get i r h;exact ⟨v,by simp [execOp,Instr.extract,hh,show m[i]? =some v from by simpa using hv],hr⟩;cases h;rename_i ty parts;split at h;rename_i l hl;obtain ⟨i1,i2⟩:=Qub hρ _ _ hl;obtain ⟨v,h2,h3⟩:=Qbl2 (P:=P) (g:=g) (parts':=parts.map fun (i,x)=>(i,ρ x)) w h (by simpa using i1) (by simpa using i2);exact ⟨v,by simp only [execOp,Sem.run_bind,h2];rfl,h3⟩;cases h;rename_i x;split at h;rename_i a ha;have h1:=hρ x _ ha;unfold Q6v at h;split at h;rename_i name t v r cap;split at h
 ·rename_i hok
  cases h;cases hh:ρ x<;>rw [hh] at h1<;>cases h1;rename_i first' cap' hf hc;obtain ⟨first'⟩:=first';simp only at hf;cases hf with
  |cons _ u _ fs hu hfs=>
  cases hu with
  |iface _ _ u hu=>
  have hna:=Qbj4 (w:=w) hok hu;refine ⟨.func (.method name) ⟨.iface t u::fs⟩ cap',?_,.func _ _ _ _ _ (.cons _ _ _ _ (.iface _ _ _ hu) hfs) hc⟩;simp [execOp,hh,hna]
 cases h;cases h;cases hh:ρ x<;>rw [hh] at h1<;>cases h1;exact ⟨_,by simp [execOp,hh];rfl,by constructor;assumption⟩;cases h;cases hh:ρ x<;>rw [hh] at h1<;>cases h1;exact ⟨_,by simp [execOp,hh];rfl,by constructor<;>assumption⟩;cases h;cases hh:ρ x<;>rw [hh] at h1<;>cases h1;exact ⟨_,by simp [execOp,hh];rfl,by constructor;assumption⟩;cases h;cases hh:ρ x<;>rw [hh] at h1<;>cases h1;exact ⟨_,by simp [execOp,hh];rfl,by constructor;assumption⟩;cases h;cases hh:ρ x<;>rw [hh] at h1<;>cases h1;exact ⟨_,by simp [execOp,hh];rfl,by constructor<;>assumption⟩;cases h;cases hh:ρ x<;>rw [hh] at h1<;>cases h1;exact ⟨_,by simp [execOp,hh];rfl,by constructor<;>assumption⟩;cases h;cases hh:ρ x<;>rw [hh] at h1<;>cases h1;exact ⟨_,by simp [execOp,hh];rfl,by constructor<;>assumption⟩;cases h;cases hh:ρ x<;>rw [hh] at h1<;>cases h1;exact ⟨_,by simp [execOp,hh];rfl,by constructor<;>assumption⟩;cases h;cases h;rename_i c;split at h;rename_i hc;split at h;rename_i r' hl;obtain ⟨v,h2,h3⟩:=Qbmv (P:=P) (ty:=type) (m:=c.args.map ρ) w hρ.sig h (by simpa using Qb9 hρ _ _ hl);exact ⟨v,by simp [execOp,resolve,hc,invoke,builtin,h2],h3⟩;rename_i b z ap off n hl;obtain ⟨v,h2,h3⟩:=Qbmp (P:=P) (ty:=type) (m:=c.args.map ρ) w hρ.sig h (by simpa using Qb9 hρ _ _ hl);exact ⟨v,by simp [execOp,resolve,hc,invoke,builtin,h2],h3⟩;rename_i i' hl;obtain ⟨v,h2,h3⟩:=Qbmz (P:=P) (ty:=type) (m:=c.args.map ρ) w hρ.sig h (by simpa using Qb9 hρ _ _ hl);exact ⟨v,by simp [execOp,resolve,hc,invoke,builtin,h2],h3⟩;rename_i l hl
 obtain ⟨v,h2,h3⟩:=Qbmi (P:=P) (ty:=type) (m:=c.args.map ρ) w h (by simpa using Qb9 hρ _ _ hl);exact ⟨v,by simp [execOp,resolve,hc,invoke,builtin,h2],h3⟩;cases h;rename_i hc;split at h;rename_i l hl;obtain ⟨v,h2,h3⟩:=Qbl5 (P:=P) (ty:=type) (m:=c.args.map ρ) w h (by simpa using Qb9 hρ _ _ hl);exact ⟨v,by simp [execOp,resolve,hc,invoke,builtin,h2],h3⟩;cases h;rename_i hc;split at h;rename_i l hl;obtain ⟨v,h2,h3⟩:=Qbml (P:=P) (ts:=c.argTypes) (ty:=type) (m:=c.args.map ρ) w hρ.sig h (by simpa using Qb9 hρ _ _ hl);exact ⟨v,by simp [execOp,resolve,hc,invoke,builtin,h2],h3⟩;cases h;rename_i hc;split at h;rename_i l hl;obtain ⟨v,h2,h3⟩:=Qbmf (P:=P) (ts:=c.argTypes) (ty:=type) (m:=c.args.map ρ) w hρ.sig h (by simpa using Qb9 hρ _ _ hl);exact ⟨v,by simp [execOp,resolve,hc,invoke,builtin,h2],h3⟩;cases h;cases h;rename_i x xT asserted ok;split at h;rename_i a ha;obtain ⟨v,h2,h3⟩:=Qbly (P:=P) (xT:=xT) w h (hρ x _ ha);exact ⟨v,by simp [execOp,h2],h3⟩;cases h;cases h
end
end Go.Ev
namespace Go.Ev
structure Wr (b:Nat) (w w':World):Prop where
 size:w'.heap.size=w.heap.size
 other: ∀k,k≠b->w'.heap[k]? =w.heap[k]?
 os:w'.os=w.os
 tape:w'.tape=w.tape
 output:w'.output=w.output
theorem Wr.refl (b:Nat) (w:World):Wr b w w:=⟨rfl,fun _ _=>rfl,rfl,rfl,rfl⟩
theorem Wr.trans {b:Nat} {w w' w'':World} (h:Wr b w w') (h':Wr b w' w''):Wr b w w'':=
 ⟨h'.size.trans h.size,fun k hk=>(h'.other k hk).trans (h.other k hk),h'.os.trans h.os,h'.tape.trans h.tape,h'.output.trans h.output⟩
theorem Qbnf (w:World) (b o:Nat) (v:Value) {C:Array Value} {e:TypeId} {fr:Nat×Nat} (h:w.heap[b]? =some (.cells C e fr)):
  (w.setCell ⟨b,o,none⟩ v).heap[b]? =some (.cells (C.setIfInBounds o v) e fr):=by
 simp [World.setCell,Array.getElem?_modify,h]
theorem Qbng (w:World) (b o:Nat) (v:Value):Wr b w (w.setCell ⟨b,o,none⟩ v):=
 ⟨by simp,fun k hk=>by simp [World.setCell,Array.getElem?_modify,Ne.symm hk],rfl,rfl,rfl⟩
theorem Qk1 {P:Program} (b o:Nat) (e:TypeId) (fr:Nat×Nat): ∀(vs:List Value) (i:Nat) (C:Array Value) (w:World),w.heap[b]? =some (.cells C e fr)->
  (∀k,k<C.size-> ¬(fr.1<=k/\k<fr.2))->o+i+vs.length<=C.size->(∀v∈vs,v.oneCell'=true)->
  ∃w',(storeCells ⟨b,o,none⟩ vs i).run P w=.ok () w'/\Wr b w w'/\w'.heap[b]? =some (.cells ((vs.zipIdx i).foldl (fun cs (x:Value×Nat)=>cs.setIfInBounds (o+x.2) x.1) C) e fr)
 |[],i,C,w,hb,_,_,_=>⟨w,by simp [storeCells],Wr.refl b w,by simpa using hb⟩
 |v::vs,i,C,w,hb,hfr,hle,h1=>by
  have hi:o+i<C.size:=by simp at hle;omega
  have hcell:w.cell? ⟨b,o+i,none⟩=some C[o+i]:=by simp [World.cell?,hb,hi]
  have hf:w.frozen? ⟨b,o+i,none⟩=false:=by
   have:=hfr (o+i) hi;simp only [World.frozen?,hb];by_cases h1:fr.1<=o+i;have: ¬o+i<fr.2:=fun h2=>this ⟨h1,h2⟩;simp [this];simp [h1]
  have hst:(store ((⟨b,o,none⟩:Addr).add i) v).run P w=.ok () (w.setCell ⟨b,o+i,none⟩ v):=by
   rw [Qbs,run_store P w _ v _ (h1 v (by simp)),hcell];simp [hf]
  obtain ⟨w',h2,h3,h4⟩:=Qk1 (P:=P) b o e fr vs (i+1) (C.setIfInBounds (o+i) v) (w.setCell ⟨b,o+i,none⟩ v) (Qbnf w b (o+i) v hb)
   (by simpa using hfr) (by simp at hle⊢;omega) (fun u hu=>h1 u (by simp [hu]))
  refine ⟨w',?_,(Qbng w b (o+i) v).trans h3,?_⟩;simp only [storeCells,Sem.run_bind,hst,Result.andThen_ok,h2];simpa [List.zipIdx_cons] using h4
theorem Qdz: ∀(l:List (Value×Nat)) (o:Nat) (C:Array Value),(l.foldl (fun cs (x:Value×Nat)=>cs.setIfInBounds (o+x.2) x.1) C).size=C.size
 |[],_,_=>rfl
 |x::l,o,C=>by simp only [List.foldl_cons];rw [Qdz l o];simp
theorem Qp7: ∀(l:List (Value×Nat)) (o:Nat) (C:Array Value) {j:Nat},(∀x∈l,j<o+x.2)->(l.foldl (fun cs (x:Value×Nat)=>cs.setIfInBounds (o+x.2) x.1) C)[j]? =C[j]?
 |[],_,_,_,_=>rfl
 |x::l,o,C,j,h=>by
  simp only [List.foldl_cons];rw [Qp7 l o _ (fun y hy=>h y (by simp [hy])),Array.getElem?_setIfInBounds_ne (by have:=h x (by simp);omega)]
theorem Qp6: ∀(vs:List Value) (i o:Nat) (C:Array Value),o+i+vs.length<=C.size-> ∀(j:Nat) (v:Value),vs[j]? =some v->
  ((vs.zipIdx i).foldl (fun cs (x:Value×Nat)=>cs.setIfInBounds (o+x.2) x.1) C)[o+i+j]? =some v
 |[],_,_,_,_,_,_,h=>by simp at h
 |u::vs,i,o,C,hle,0,v,h=>by
  simp at h;subst h;simp only [List.zipIdx_cons,List.foldl_cons];rw [Qp7];simp at hle;have:o+i<C.size:=by omega
  simp [this];intro x hx;have:=(List.mem_zipIdx hx).1;omega
 |u::vs,i,o,C,hle,j+1,v,h=>by
  simp only [List.zipIdx_cons,List.foldl_cons];have:=Qp6 vs (i+1) o (C.setIfInBounds (o+i) u) (by simp at hle⊢;omega) j v (by simpa using h);rw [show o+i+(j+1)=o+(i+1)+j by omega];exact this
def upd (g:Inj) (i:Nat) (L:Loc):Inj:=⟨fun j=>if j=i then some L else g j,g.sig,g.mp⟩
theorem Q4 (g:Inj) (i:Nat) (L:Loc):upd g i L i=some L:=by simp [upd]
theorem Qy (g:Inj) {i j:Nat} (L:Loc) (h:j≠i):upd g i L j=g j:=by simp [upd,h]
theorem Qe0 {g:Inj} {i:Nat} (L:Loc) (h:g i=none):Sub g (upd g i L):=⟨fun j M hj=>by
 by_cases hji:j=i;subst hji;rw [h] at hj;cases hj;rw [Qy g L hji];exact hj,rfl,fun _ _ h=>h⟩
theorem CRel.of_list {g:Inj} {c:List AVal} {C:Array Value} (h:LRel g c C.toList) (h1: ∀v∈C.toList,v.oneCell'=true):CRel g c C 0:=by
 intro i a hi;obtain ⟨v,hv,hr⟩:=h.get i a hi;exact ⟨v,by simpa using hv,hr,h1 v (List.mem_of_getElem? hv)⟩
theorem CRel.seg {g:Inj} {c r:List AVal} {C:Array Value} {d off n:Nat} (h:CRel g c C d) (hs:Ev.seg c off n=some r):
  ∃vs:List Value,vs.length=n/\r.length=n/\LRel g r vs/\(∀v∈vs,v.oneCell'=true)/\ ∀(j:Nat) (v:Value),vs[j]? =some v->C[d+(off+j)]? =some v:=by
 unfold Ev.seg at hs;split at hs;rename_i hle;cases hs;have key: ∀j,j<n-> ∃v,C[d+(off+j)]? =some v/\VRel g (c[off+j]?.getD default) v/\v.oneCell'=true:=by
  intro j hj;have hlt:off+j<c.length:=by omega
  obtain ⟨v,h1,h2,h3⟩:=h (off+j) c[off+j] (by simp [hlt]);exact ⟨v,h1,by simpa [hlt] using h2,h3⟩
 refine ⟨(List.range n).map fun j=>C[d+(off+j)]?.getD undef,by simp,by simp;omega,?_,?_,?_⟩;refine LRel.of_get (by simp;omega) ?_;intro j a hj;have hjn:j<n:=by
  have:=(List.getElem?_eq_some_iff.1 hj).1;simp at this;omega
 obtain ⟨v,h1,h2,h3⟩:=key j hjn;refine ⟨v,by simp [hjn,h1],?_⟩;rw [List.getElem?_take,if_pos hjn,List.getElem?_drop] at hj;rw [hj] at h2;exact h2;intro v hv;simp only [List.mem_map,List.mem_range] at hv;obtain ⟨j,hj,rfl⟩:=hv;obtain ⟨v,h1,_,h3⟩:=key j hj;simpa [h1] using h3;intro j v hj;have hjn:j<n:=by
  have:=(List.getElem?_eq_some_iff.1 hj).1;simpa using this
 obtain ⟨u,h1,_,_⟩:=key j hjn;simp [hjn,h1] at hj;rw [h1,hj];cases hs
theorem HRel.allocK {ng:Cx} {g:Inj} {H H':List Blk} {w w0:World} (h:HRel ng g H w) {id:Nat} (hid:g id=none) (hng:ng.n<=id) {k:Blk} {O:Obj} {n:Nat}
  (h0:w0.heap=w.heap) (hos:w0.os=w.os) (htape:w0.tape=w.tape) (hout:w0.output=w.output)
  (hH:H'[id]? =some k) (hHo: ∀j,j≠id->H'[j]? =H[j]?) (hlen:H.length<=H'.length) (hfree:H.length<=id\/ ¬Live H id)
  (hB:(w0.alloc O).heap[w.heap.size]? =some O->BRel (upd g id ⟨w.heap.size,0,n⟩) (w0.alloc O) k ⟨w.heap.size,0,n⟩):
  HRel ng (upd g id ⟨w.heap.size,0,n⟩) H' (w0.alloc O)/\(H.length<=id->Ext g H w (upd g id ⟨w.heap.size,0,n⟩) H' (w0.alloc O)):=by
 have hsub:=Qe0 (⟨w.heap.size,0,n⟩:Loc) hid;have hidl:id<H'.length:=(List.getElem?_eq_some_iff.1 hH).1;have hnew:(w0.alloc O).heap[w.heap.size]? =some O:=by simp [World.alloc,h0]
 have hold: ∀b,b<w.heap.size->(w0.alloc O).heap[b]? =w.heap[b]?:=by
  intro b hb;simp only [World.alloc,h0,Array.getElem?_push];rw [if_neg (by omega)]
 have hsz:(w0.alloc O).heap.size=w.heap.size+1:=by simp [World.alloc,h0]
 have hlive: ∀j,j≠id->(Live H' j↔Live H j):=fun j hj=>by unfold Live;rw [hHo j hj]
 constructor;constructor;intro i L hi;by_cases hii:i=id;subst hii;rw [Q4] at hi;cases hi;exact ⟨hidl,by rw [hsz];exact Nat.lt_succ_self _⟩;rw [Qy g _ hii] at hi;have:=h.dom i L hi;exact ⟨Nat.lt_of_lt_of_le this.1 hlen,by rw [hsz];omega⟩;intro i j L M hi hj hb li lj;by_cases hii:i=id;by_cases hjj:j=id;rw [hii,hjj];subst hii;rw [Q4] at hi;cases hi;rw [Qy g _ hjj] at hj;have:=(h.dom j M hj).2;simp at hb;omega;by_cases hjj:j=id;subst hjj;rw [Q4] at hj;cases hj;rw [Qy g _ hii] at hi;have:=(h.dom i L hi).2;simp at hb;omega;rw [Qy g _ hii] at hi;rw [Qy g _ hjj] at hj;exact h.inj i j L M hi hj hb ((hlive i hii).1 li) ((hlive j hjj).1 lj);intro i k hi hk;by_cases hii:i=id;subst hii;rw [hH] at hi;cases hi;exact .inr ⟨_,Q4 _ _ _,hB hnew⟩;rw [hHo i hii] at hi;rcases h.blk0 i k hi hk with hz|⟨L,hL,hB⟩
 exact .inl (hz.mono rfl);exact .inr ⟨L,by rw [Qy g _ hii];exact hL,(hB.of_same (hold _ (h.dom i L hL).2)).mono hsub⟩;intro i hi;obtain ⟨L,hL,h1,h2⟩:=h.glob i hi;exact ⟨L,hsub _ _ hL,h1,h2⟩;exact h.sig;refine h.frz.to rfl rfl hlen (by simp [World.alloc,h0]) fun b hb q2=>⟨hold _ hb,fun j M hj lj he=> ?_⟩;by_cases hjj:j=id;subst hjj;rw [Q4] at hj;cases hj;simp at he;omega;rw [Qy g _ hjj] at hj;exact q2 j M hj ((hlive j hjj).1 lj) he;intro hle;constructor;exact hsub;intro i L hi hn;by_cases hii:i=id;subst hii;rw [Q4] at hi;cases hi;exact ⟨hle,.inl (Nat.le_refl _)⟩;rw [Qy g _ hii,hn] at hi;cases hi;intro i X hi hn;rw [show (upd g id _).mp=g.mp from rfl,hn] at hi;cases hi;exact hlen;intro i hi hl;by_cases hii:i=id;omega;exact (hlive i hii).1 hl;rw [hsz];omega;intro b hb _;exact hold b hb;exact hos;exact htape;exact hout
theorem HRel.alloc {ng:Cx} {g:Inj} {H H':List Blk} {w w0:World} (h:HRel ng g H w) {id:Nat} (hid:g id=none) (hng:ng.n<=id) {c:List AVal} {e:TypeId} {C:Array Value} {fr:Nat×Nat}
  (h0:w0.heap=w.heap) (hos:w0.os=w.os) (htape:w0.tape=w.tape) (hout:w0.output=w.output)
  (hH:H'[id]? =some (.cells c e)) (hHo: ∀j,j≠id->H'[j]? =H[j]?) (hlen:H.length<=H'.length) (hfree:H.length<=id\/ ¬Live H id)
  (hfr:FrOk fr C) (hcl:c.length<=C.size) (hc:CRel g c C 0):
  HRel ng (upd g id ⟨w.heap.size,0,C.size⟩) H' (w0.alloc (.cells C e fr))/\(H.length<=id->Ext g H w (upd g id ⟨w.heap.size,0,C.size⟩) H' (w0.alloc (.cells C e fr))):=
 HRel.allocK h hid hng h0 hos htape hout hH hHo hlen hfree fun hnew=>⟨C,fr,hnew,by simp,hfr,hcl,fun j a hj=>let ⟨v,a1,a2,a3⟩:=hc j a hj;⟨v,a1,a2.mono (Qe0 _ hid),a3⟩⟩
theorem HRel.writeK {ng:Cx} {g:Inj} {H:List Blk} {w w':World} (h:HRel ng g H w) {b:Nat} {L:Loc} {k':Blk} (hlb:Live H b) (hL:g b=some L)
  (hw:Wr L.blk w w') (hB:BRel g w' k' L):HRel ng g (H.set b k') w'/\Ext g H w g (H.set b k') w':=by
 have hbl:b<H.length:=let ⟨_,h1,_⟩:=hlb;(List.getElem?_eq_some_iff.1 h1).1;have hlive: ∀j,Live (H.set b k') j->Live H j:=by
  intro j ⟨k,hk,hne⟩;rw [List.getElem?_set] at hk;split at hk;rename_i hbj;subst hbj;exact hlb;exact ⟨k,hk,hne⟩
 constructor;constructor;intro i M hi;have:=h.dom i M hi;exact ⟨by simpa using this.1,by rw [hw.size];exact this.2⟩;intro i j M N hi hj hbk li lj;exact h.inj i j M N hi hj hbk (hlive i li) (hlive j lj);intro i k hi hk;rw [List.getElem?_set] at hi;split at hi;rename_i hbi;subst hbi;simp at hi;subst hi;exact .inr ⟨L,hL,hB⟩;rename_i hbi;rcases h.blk0 i k hi hk with hz|⟨M,hM,hBM⟩
 exact .inl hz;refine .inr ⟨M,hM,hBM.of_same (hw.other _ fun he=>hbi ?_)⟩;exact (h.inj i b M L hM hL he ⟨k,hi,hk⟩ hlb).symm;exact h.glob;exact h.sig;exact h.frz.to rfl rfl (by simp) (by rw [hw.size];exact Nat.le_refl _) fun b' hb' q2=>⟨hw.other _ fun he=>q2 b L hL hlb he.symm,fun j M hj lj=>q2 j M hj (hlive j lj)⟩;constructor;exact Sub.refl g;intro i M hi hn;rw [hn] at hi;cases hi;intro i M hi hn;rw [hn] at hi;cases hi;simp;intro i _ hl;exact hlive i hl;rw [hw.size];exact Nat.le_refl _;intro k hk hno;exact hw.other k fun he=>hno b L hL hlb he.symm;exact hw.os;exact hw.tape;exact hw.output
theorem HRel.write {ng:Cx} {g:Inj} {H:List Blk} {w w':World} (h:HRel ng g H w) {b:Nat} {L:Loc} {c c':List AVal} {e:TypeId} (hb:H[b]? =some (.cells c e)) (hL:g b=some L)
  (hw:Wr L.blk w w') (hB:BRel g w' (.cells c' e) L):HRel ng g (H.set b (.cells c' e)) w'/\Ext g H w g (H.set b (.cells c' e)) w':=
 HRel.writeK h ⟨_,hb,by simp⟩ hL hw hB
theorem CRel.sets {g:Inj} {d:Nat}: ∀{vs:List AVal} {us:List Value} {c:List AVal} {C:Array Value} (off j:Nat),LRel g vs us->(∀u∈us,u.oneCell'=true)->CRel g c C d->
  d+off+j+vs.length<=C.size->
  CRel g (Qd4 c (off+j) vs) ((us.zipIdx j).foldl (fun cs (x:Value×Nat)=>cs.setIfInBounds (d+off+x.2) x.1) C) d
 |_,_,c,C,off,j,.nil,_,h,_=>by simpa [Qd4] using h
 |_,_,c,C,off,j,.cons a v l m hv hr,h1,h,hle=>by
  simp only [Qd4,List.zipIdx_cons,List.foldl_cons];have hset:CRel g (c.set (off+j) a) (C.setIfInBounds (d+off+j) v) d:=by
   intro i b hi;rw [List.getElem?_set] at hi;split at hi;rename_i hij;split at hi;cases hi;subst hij;refine ⟨v,?_,hv,h1 v (by simp)⟩;have:d+(off+j)=d+off+j:=by omega
   rw [this,Array.getElem?_setIfInBounds];simp at hle;have:d+off+j<C.size:=by omega
   simp [this];cases hi;rename_i hij;obtain ⟨u,a1,a2,a3⟩:=h i b hi;refine ⟨u,?_,a2,a3⟩;rw [Array.getElem?_setIfInBounds_ne (by omega)];exact a1
  have:=CRel.sets off (j+1) hr (fun u hu=>h1 u (by simp [hu])) hset (by simp at hle⊢;omega);simpa [Nat.add_assoc] using this
theorem Q82: ∀(vs l:List AVal) (off:Nat),(Qd4 l off vs).length=l.length
 |[],_,_=>rfl
 |v::vs,l,off=>by simp only [Qd4];rw [Q82 vs];simp
end Go.Ev
namespace Go.Ev
def Qgc (P:Program) (ty:TypeId) (a:AVal) (H:List Blk):Option AVal:=
 match a with
 |.ptr b off=>match H[b]? with
  |some (.cells c _)=>match P.underlying ty with
   |some _=>Qbt P ty c off
   |none=>none
  |_=>none
 |_=>none
def Qxj (P:Program) (ng:Cx) (ty:TypeId) (r:Nat) (ix:AVal) (j:Nat):Option AVal:=
 match ng.rat r ix with
 |some cs=>match P.underlying ty with
  |some _=>Qbt P ty cs j
  |none=>none
 |none=>none
def Qi9 (ng:Cx) (cl:List (Option IntKind)) (s ix:AVal):Nat->Option (List AVal)
 |0=>some []
 |n+1=>match Qi9 ng cl s ix n with
  |some l=>match symS ng (.sop (.cell cl n) [s,ix]) with
   |some a=>some (l++[a])
   |none=>none
  |none=>none
def Qj8 (P:Program) (ng:Cx) (ty:TypeId) (b z:Nat) (ix:AVal) (j:Nat) (H:List Blk):Option AVal:=
 match H[b]? with
 |some (.lst s n cl _)=>match Nat.beq cl.length z&&(leqT ng (.int .i64 0) ix&&lssT ng ix n) with
  |true=>match Qi9 ng cl s ix z with
   |some cs=>match P.underlying ty with
    |some _=>Qbt P ty cs j
    |none=>none
   |none=>none
  |false=>none
 |_=>none
def Qgb (P:Program) (ng:Cx) (ty:TypeId) (a:AVal) (H:List Blk):Option AVal:=
 match a with
 |.rptr r ix j=>Qxj P ng ty r ix j
 |.lptr b z ix j=>Qj8 P ng ty b z ix j H
 |a=>Qgc P ty a H
def Qmf:List AVal->Option (List Int)
 |[]=>some []
 |.int .u8 n::l=>match Qmf l with
  |some r=>some (n::r)
  |none=>none
 |_=>none
def Qeq (size n:Nat) (x:AVal) (H:List Blk):Option (List AVal):=
 match x with
 |.nilslice=>some []
 |.slice b off len cap _=>if n=0\/0<len\/0<cap then (if n*size=0 then some [] else match H[b]? with
  |some (.cells c _)=>seg c off (n*size)
  |_=>none) else none
 |.str s=>if n=s.size/\size=1 then some (s.toList.map fun b=>AVal.int .u8 b.toNat) else none
 |_=>none
def Qle:List AVal->Bool
 |[]=>true
 |.int .u8 _::l=>Qle l
 |.symi .u8 _::l=>Qle l
 |_=>false
def Qhy (P:Program) (ng:Cx) (src dst:TypeId) (x:AVal) (H:List Blk):Option AVal:=
 match P.underlying src,P.underlying dst with
 |some (.slice e),some .string=>match P.underlying e with
  |some (.int .u8)=>match x with
   |.nilslice=>some (.str .empty)
   |.slice _ _ len _ _=>match Qeq 1 len x H with
    |some l=>match Qmf l with
     |some ns=>some (.str ⟨(ns.map fun n=>UInt8.ofNat n.toNat).toArray⟩)
     |none=>match Qle l with
      |true=>symS ng (.text l)
      |false=>none
    |none=>none
   |.row i=>match ng.rstr i with
    |some (s,cl)=>match decide (cl=[some .u8]) with
     |true=>some s
     |false=>none
    |none=>none
   |.crow i=>match ng.rstr i with
    |some (s,cl)=>match decide (cl=[some .u8]) with
     |true=>some s
     |false=>none
    |none=>none
   |.lsl b z _ off n=>match H[b]? with
    |some (.lst s nb cl _)=>match decide (cl=[some .u8])&&(Nat.beq z 1&&(isZ off&&lssT ng (.int .i64 0) n)) with
     |true=>match Qgn n nb with
      |true=>some s
      |false=>match leqT ng n nb with
       |true=>symS ng (.sop .sub [s,.int .i64 0,n])
       |false=>none
     |false=>none
    |_=>none
   |_=>none
  |_=>none
 |_,_=>none
def keyA (d:TypeDesc) (k:AVal):Option Value:=
 match d,k with
 |.int kd,.int k n=>if kd=k then some (.int k n) else none
 |.string,.str s=>some (.string s)
 |.bool,.bool b=>some (.bool b)
 |_,_=>none
def Qgm:AVal->AVal->Bool
 |.int _ a,.int _ b=>a==b
 |.str a,.str b=>a==b
 |.bool a,.bool b=>a==b
 |_,_=>false
def Qfa (d:TypeDesc) (k:AVal):List (AVal×AVal)->Option (Option AVal)
 |[]=>some none
 |(k',v)::l=>match keyA d k' with
  |some _=>match Qgm k' k with
   |true=>match Qfa d k l with
    |some none=>some (some v)
    |_=>none
   |false=>Qfa d k l
  |none=>none
def Qic (P:Program) (ng:Cx) (ty:TypeId) (x k:AVal) (ok:Bool) (H:List Blk):Option AVal:=none
def Qdj:AVal->Option Nat
 |.ptr b _=>some b
 |.slice b _ len _ _=>if len=0 then none else some b
 |.map b=>some b
 |.lptr b _ _ _=>some b
 |.lsl b _ _ _ _=>some b
 |_=>none
def Qt0 (ng:Cx):AVal->Bool
 |.lsl _ _ _ _ n=>match symS ng (.bin .lss (.int .i64 0) n) with
  |some (.bool b)=> !b
  |_=>false
 |_=>false
def Qti (P:Program) (src dst:TypeId):Bool:=
 match P.underlying src,P.underlying dst with
 |some (.slice e),some .string=>match P.underlying e with
  |some (.int .u8)=>true
  |_=>false
 |_,_=>false
def Qcv (P:Program) (ng:Cx) (t:Tm) (op:Op) (H:List Blk):Option (AVal×Option Nat):=
 match op with
 |.load ty a=>match ev ng t a with
  |some x=>match Qgb P ng ty x H with
   |some v=>some (v,Qdj x)
   |none=>none
  |none=>none
 |.convert src dst x=>match ev ng t x with
  |some a=>match Qt0 ng a with
   |true=>match Qti P src dst with
    |true=>some (.str .empty,none)
    |false=>none
   |false=>match Qhy P ng src dst a H with
    |some v=>some (v,Qdj a)
    |none=>none
  |none=>none
 |.lookup ty x k ok=>match ev ng t x,ev ng t k with
  |some a,some kv=>match Qic P ng ty a kv ok H with
   |some v=>some (v,Qdj a)
   |none=>none
  |_,_=>none
 |.entry it=>match ev ng t it with
  |some (.ptr q 0)=>match H[q]? with
   |some (.iter _ _ (some (k,v)))=>some (.tuple [k,v],some q)
   |_=>none
  |_=>none
 |_=>none
section
variable {P : Program} {g : Inj} {ng : Cx} {t : Tm} {ρ : Operand -> Value} {H : List Blk} {w : World}
theorem Qdw {w:World} {b:Nat} {C:Array Value} {e:TypeId} {fr:Nat×Nat} (h:w.heap[b]? =some (.cells C e fr)) (o:Nat):w.cell? ⟨b,o,none⟩=C[o]?:=by
 simp [World.cell?,h]
theorem Q8k (hH:HRel ng g H w) {ty:TypeId} {x r:AVal} {u:Value} (h:Qgc P ty x H=some r) (hx:VRel g x u):
  ∃v,(Instr.loadAt ty u).run P w=.ok v w/\VRel g r v:=by
 unfold Qgc at h;split at h;rename_i b off;split at h;rename_i c e hb;split at h
 ·rename_i d hd
  cases hx with
  |ptr _ _ L hL=>
   obtain ⟨M,hM,C,fr,h1,h2,h3,h4,h5⟩:=hH.blk b _ hb (by simp);rw [hL] at hM;cases hM;obtain ⟨i,hi⟩:=Qme hd;have hsz:=Qbg (P:=P) w hi;unfold Qbt at h;split at h;rename_i hagg;split at h;rename_i l hl;cases h;obtain ⟨vs,k1,_,k2,_,k4⟩:=CRel.seg h5 hl;have hload:=run_loadCells_list (P:=P) w ⟨L.blk,L.dl+off,none⟩ vs (fun j v hj=>by
    rw [Qbs,Qdw h1];have:=k4 j v hj;rw [show L.dl+off+j=L.dl+(off+j) by omega];exact this)
   rw [k1,Qeb hi] at hload;refine ⟨.agg vs.toArray,?_,.agg _ _ (by simpa using k2)⟩;simp [Instr.loadAt,Instr.sureAddr,loadVar,Qir w hd,hagg,hsz,hload];cases h;rename_i hagg;obtain ⟨v,k1,k2,_⟩:=h5 off r h;refine ⟨v,?_,k2⟩;simp [Instr.loadAt,Instr.sureAddr,loadVar,Qir w hd,hagg,Qdw h1,k1]
 cases h;cases h;cases h
theorem Qbmw (hH:HRel ng g H w) {ty:TypeId} {r j:Nat} {ix v:AVal} {u:Value} (h:Qxj P ng ty r ix j=some v) (hx:VRel g (.rptr r ix j) u):
  ∃v',(Instr.loadAt ty u).run P w=.ok v' w/\VRel g v v':=by
 unfold Qxj at h;split at h;rename_i cs hrat;split at h
 ·rename_i d hd
  cases hx with
  |rptr _ _ _ m X x1 x2 x3=>
   obtain ⟨m',d1,d2,d3,d4⟩:=hH.sig.rat r ix cs X hrat x1;have:m'=m:=by rw [x2] at d1;cases d1;rfl
   subst this;obtain ⟨C,e,fr,h1,h3,_⟩:=(hH.frz.row r X x1 (by omega)).1;have h5:CRel g cs C (X.off+m'*X.z):=by
    intro i a hi;have hlt:i<X.z:=by rw [<-d3];exact (List.getElem?_eq_some_iff.1 hi).1
    obtain ⟨y,y1,y2,y3⟩:=h3 m' i x3 hlt;refine ⟨y,y1,?_,y3⟩;rw [<-Qn,d4 i a hi];exact y2 g
   obtain ⟨i,hi⟩:=Qme hd;have hsz:=Qbg (P:=P) w hi;unfold Qbt at h;split at h;rename_i hagg;split at h;rename_i l hl;cases h;obtain ⟨vs,k1,_,k2,_,k4⟩:=CRel.seg h5 hl;have hload:=run_loadCells_list (P:=P) w ⟨X.blk,X.off+m'*X.z+j,none⟩ vs (fun jj v hj=>by
    rw [Qbs,Qdw h1];have:=k4 jj v hj;rw [show X.off+m'*X.z+j+jj=X.off+m'*X.z+(j+jj) by omega];exact this)
   rw [k1,Qeb hi] at hload;refine ⟨.agg vs.toArray,?_,.agg _ _ (by simpa using k2)⟩;simp [Instr.loadAt,Instr.sureAddr,loadVar,Qir w hd,hagg,hsz,hload];cases h;rename_i hagg;obtain ⟨y,k1,k2,_⟩:=h5 j v h;refine ⟨y,?_,k2⟩;simp [Instr.loadAt,Instr.sureAddr,loadVar,Qir w hd,hagg,Qdw h1,k1]
 cases h;cases h
theorem Qzf {cl:List (Option IntKind)} {s ix:AVal}: ∀{n:Nat} {cs:List AVal},Qi9 ng cl s ix n=some cs->cs.length=n/\ ∀(j:Nat) (a:AVal),cs[j]? =some a->symS ng (.sop (.cell cl j) [s,ix])=some a
 |0,cs,h=>by simp only [Qi9,Option.some.injEq] at h;subst h;exact ⟨rfl,fun j a h=>by simp at h⟩
 |n+1,cs,h=>by
  simp only [Qi9] at h;split at h;rename_i l hl;split at h;rename_i a ha;cases h;obtain ⟨h1,h2⟩:=Qzf hl;refine ⟨by simp [h1],fun j b hj=> ?_⟩;rcases Nat.lt_or_ge j l.length with h9|h9
  rw [List.getElem?_append_left h9] at hj;exact h2 j b hj;rw [List.getElem?_append_right h9] at hj;have hj0:j-l.length=0:=by
   have:=(List.getElem?_eq_some_iff.1 hj).1;simp at this;omega
  rw [hj0] at hj;simp at hj;subst hj;have:j=n:=by omega
  subst this;exact ha;cases h;cases h
theorem Qba8 (hg:ng.Good g.sig) {cl:List (Option IntKind)} {s ix:AVal} {cs:List AVal} {z m:Nat} {S:ByteArray} {C:Array Value} {d:Nat} (h:Qi9 ng cl s ix z=some cs) (hs:den g.sig s=.str S) (hi:den g.sig ix=.int .i64 (m:Int))
  (hc: ∀j,j<z-> ∃v,C[d+j]? =some v/\VRel g (Qm cl S m j) v/\v.oneCell'=true):CRel g cs C d:=by
 obtain ⟨h1,h2⟩:=Qzf h;intro j a hj;have hlt:j<z:=by rw [<-h1];exact (List.getElem?_eq_some_iff.1 hj).1
 obtain ⟨v,v1,v2,v3⟩:=hc j hlt;obtain ⟨q,q1,q2⟩:=Qcp hg (h2 j a hj);simp only [Qb,List.map,hs,hi,sopA,Option.some.injEq,Int.toNat_natCast] at q1;subst q1;exact ⟨v,v1,q2 v v2,v3⟩
theorem Qbmr (hH:HRel ng g H w) {ty:TypeId} {b z j:Nat} {ix v:AVal} {u:Value} (h:Qj8 P ng ty b z ix j H=some v) (hx:VRel g (.lptr b z ix j) u):
  ∃v',(Instr.loadAt ty u).run P w=.ok v' w/\VRel g v v':=by
 unfold Qj8 at h;split at h;rename_i s n cl e hb;split at h;rename_i hcond;simp only [Bool.and_eq_true] at hcond;obtain ⟨c1,c2,c3⟩:=hcond;have c1:=Nat.eq_of_beq_eq_true c1;split at h;rename_i cs hcs;split at h
 ·rename_i d hd
  cases hx with
  |lptr _ _ _ _ m L x1 x2 x3 x4=>
   rcases hH.blk0 b _ hb (by simp) with ⟨s',n',cl',e',hk,_,hn0⟩|⟨M,hM,S,N,C,fr,e9,b1,b2,b3,b4,b5,b6,b7,b8⟩;cases hk;have:=Qgd hH.sig c3 x2 hn0;omega;rw [x1] at hM;cases hM;have hmN:m<N:=by have:=Qgd hH.sig c3 x2 b2;omega
   have h5:CRel g cs C (L.dl+m*z):=Qba8 hH.sig hcs b1 x2 fun i hi=>by
    obtain ⟨y,y1,y2,y3⟩:=b8 m i hmN (by omega);rw [c1] at y1;exact ⟨y,y1,y2,y3⟩
   obtain ⟨i,hi⟩:=Qme hd;have hsz:=Qbg (P:=P) w hi;unfold Qbt at h;split at h;rename_i hagg;split at h;rename_i l hl;cases h;obtain ⟨vs,k1,_,k2,_,k4⟩:=CRel.seg h5 hl;have hload:=run_loadCells_list (P:=P) w ⟨L.blk,L.dl+m*z+j,none⟩ vs (fun jj v hj=>by
    rw [Qbs,Qdw b4];have:=k4 jj v hj;rw [show L.dl+m*z+j+jj=L.dl+m*z+(j+jj) by omega];exact this)
   rw [k1,Qeb hi] at hload;refine ⟨.agg vs.toArray,?_,.agg _ _ (by simpa using k2)⟩;simp [Instr.loadAt,Instr.sureAddr,loadVar,Qir w hd,hagg,hsz,hload];cases h;rename_i hagg;obtain ⟨y,k1,k2,_⟩:=h5 j v h;refine ⟨y,?_,k2⟩;simp [Instr.loadAt,Instr.sureAddr,loadVar,Qir w hd,hagg,Qdw b4,k1]
 cases h;cases h;cases h;cases h
theorem Qbmj (hH:HRel ng g H w) {ty:TypeId} {x r:AVal} {u:Value} (h:Qgb P ng ty x H=some r) (hx:VRel g x u):
  ∃v,(Instr.loadAt ty u).run P w=.ok v w/\VRel g r v:=by
 unfold Qgb at h;split at h;exact Qbmw hH h hx;exact Qbmr hH h hx;exact Q8k hH h hx
theorem Q1v: ∀{l:List AVal} {ns:List Int},Qmf l=some ns->l=ns.map (AVal.int .u8)
 |[],ns,h=>by simp [Qmf] at h;subst h;rfl
 |a::l,ns,h=>by
  unfold Qmf at h;split at h;cases h;simp_all;rename_i n l' he;cases he;split at h;rename_i r hr;cases h;simp [Q1v hr];cases h;cases h
theorem LRel.ints: ∀{ns:List Int} {vs:List Value},LRel g (ns.map (AVal.int .u8)) vs->vs=ns.map (Value.int .u8)
 |[],vs,h=>by cases h;rfl
 |n::ns,vs,h=>by
  cases h with
  |cons _ _ _ _ h1 h2=>cases h1;simp [LRel.ints h2]
theorem Ql7: ∀(ns:List Int) (r:ByteArray),ns.foldl (fun r n=>r.push (UInt8.ofNat n.toNat)) r=⟨r.data++(ns.map fun n=>UInt8.ofNat n.toNat).toArray⟩
 |[],r=>by simp
 |n::ns,r=>by
  simp only [List.foldl_cons];rw [Ql7 ns];simp [ByteArray.push]
theorem Qod (hH:HRel ng g H w) {size n:Nat} {x:AVal} {u:Value} {l:List AVal} (h:Qeq size n x H=some l) (hx:VRel g x u) (hn:x=.nilslice->n=0):
  ∃vs:List Value,(∀w',w'.heap=w.heap->(Builtin.firstCells size n u).run P w'=.ok vs.toArray w')/\vs.length=n*size/\LRel g l vs/\(∀v∈vs,v.oneCell'=true)/\l.length=n*size:=by
 unfold Qeq at h;split at h;cases h;cases hx;refine ⟨[],fun w' _=>by simp [Builtin.firstCells],by simp [hn rfl],.nil,by simp,by simp [hn rfl]⟩;rename_i b off len cap ex;split at h
 ·rename_i hpos
  cases hx with
  |slice _ _ _ _ _ o' cap' L hL h0 h1' h2'=>
   split at h;rename_i hz;cases h;refine ⟨[],fun w' _=>by simp [Builtin.firstCells,loadCells,loadCellsFrom,hz],by simp [hz],.nil,by simp,by simp [hz]⟩;rename_i hz;split at h;rename_i c e hb;obtain ⟨M,hM,C,fr,h1,h2,h3,h4,h5⟩:=hH.blk b _ hb (by simp);rw [hL] at hM;cases hM;have ho:o'=off:=by
    rcases h0 with h0|h0;exact h0;rcases hpos with hp|hp|hp;exfalso;exact hz (by simp [hp]);omega;omega
   subst ho;obtain ⟨vs,k1,k0,k2,k3,k4⟩:=CRel.seg h5 h;refine ⟨vs,fun w' hw'=> ?_,k1,k2,k3,k0⟩;have hcell: ∀(j:Nat) (v:Value),vs[j]? =some v->w'.cell? ((⟨L.blk,L.dl+o',none⟩:Addr).add j)=some v:=by
    intro j v hj;rw [Qbs,Qdw (by rw [hw'];exact h1)];have:=k4 j v hj;rw [show L.dl+o'+j=L.dl+(o'+j) by omega];exact this
   have:=run_firstCells_some (P:=P) w' size n ⟨L.blk,L.dl+o',none⟩ len cap' vs k1 hcell;exact this;cases h
 cases h;rename_i s;split at h
 ·rename_i hc
  obtain ⟨rfl,rfl⟩:=hc;cases h;cases hx;refine ⟨s.toList.map fun b=>Value.int .u8 b.toNat,fun w' _=> ?_,by simp [ByteArray.toList_eq],?_,by simp [Value.oneCell'],by simp [ByteArray.toList_eq]⟩;have he:s.extract 0 s.size=s:=by
   apply ByteArray.ext;simp [ByteArray.extract,ByteArray.copySlice]
  simp only [Builtin.firstCells,he,Sem.run_pure]
  congr 1
  rw [ByteArray.toList_eq];apply Array.ext';simp;generalize s.toList=bs;induction bs with
  |nil=>exact .nil
  |cons b bs ih=>exact .cons _ _ _ _ (.int _ _) ih
 cases h;cases h
theorem Qs8 (V:Sig): ∀{l:List AVal},Qle l=true-> ∃ns:List Int,l.map (den V)=ns.map (AVal.int .u8)
 |[],_=>⟨[],rfl⟩
 |a::l,h=>by
  unfold Qle at h;split at h;rename_i he;cases he;rename_i n l' he;cases he;obtain ⟨ns,h1⟩:=Qs8 V h;exact ⟨n::ns,by simp [den,h1]⟩;rename_i i l' he;cases he;obtain ⟨ns,h1⟩:=Qs8 V h;exact ⟨V.i i::ns,by simp [den,h1]⟩;cases h
theorem Qxe {s:ByteArray} {m:Nat} (hlt:m<s.data.toList.length):Qm [some .u8] s m 0=.int .u8 (s.data.toList[m].toNat:Nat):=by
 simp only [Qm,rsz,csz,Qc1,decK];rw [show m*(1+0)=m by omega,List.drop_eq_getElem_cons hlt];simp only [List.take_succ_cons,List.take_zero,deB,List.foldl_cons,List.foldl_nil,Nat.zero_mul,Nat.zero_add];generalize s.data.toList[m]=b;have:=UInt8.toNat_lt b
 congr 1
 simp [IntKind.wrap,IntKind.bits,IntKind.signed];omega
theorem Qhn {src dst e:TypeId} {g:Inj} (w:World) (hs:P.underlying src=some (.slice e)) (he:P.underlying e=some (.int .u8)) (hd:P.underlying dst=some .string) {S:ByteArray} {N cap:Nat} {C:Array Value} {blk o:Nat} {t:TypeId} {fr:Nat×Nat} {ao:Option Addr}
  (hN:S.data.toList.length=N*rsz [some .u8]) (hao:0<N->ao=some ⟨blk,o,none⟩/\w.heap[blk]? =some (.cells C t fr)) (hc: ∀m,m<N-> ∃v,C[o+m]? =some v/\VRel g (Qm [some .u8] S m 0) v):
  (convert src dst (.slice ao N cap)).run P w=.ok (.string S) w:=by
 have hN':S.data.toList.length=N:=by simpa [rsz,csz] using hN
 rcases Nat.eq_zero_or_pos N with h0|h0
 ·subst h0
  have hS:S=.empty:=by
   apply ByteArray.ext;apply Array.eq_empty_of_size_eq_zero;simpa using hN'
  subst hS;cases ao with
  |none=>rw [run_convert_bytes_string w src dst e none 0 cap hs he hd];simp [Conv.bytesToString]
  |some a=>
   have hld:(loadCells a 0).run P w=.ok (([]:List Int).map (Value.int .u8)).toArray w:=by simp [loadCells,loadCellsFrom]
   rw [run_convert_bytes_string w src dst e (some a) 0 cap hs he hd,run_bytesToString w a 0 cap [] hld,Ql7];rfl
 obtain ⟨rfl,hb⟩:=hao h0;have hld:(loadCells ⟨blk,o,none⟩ N).run P w=.ok ((S.data.toList.map fun b=>(b.toNat:Int)).map (Value.int .u8)).toArray w:=by
  have:=run_firstCells_some (P:=P) w 1 N ⟨blk,o,none⟩ N cap ((S.data.toList.map fun b=>(b.toNat:Int)).map (Value.int .u8)) (by simp only [List.length_map];omega) (fun j v hj=>by
   rw [Qbs,Qdw hb];have hjl:j<S.data.toList.length:=by simpa using (List.getElem?_eq_some_iff.1 hj).1
   obtain ⟨v',a1,a2⟩:=hc j (by omega);rw [Qxe hjl] at a2;cases a2;rw [a1];simp only [List.getElem?_map,List.getElem?_eq_getElem hjl,Option.map_some,Option.some.injEq] at hj;rw [<-hj])
  simpa [Builtin.firstCells] using this
 rw [run_convert_bytes_string w src dst e (some ⟨blk,o,none⟩) N cap hs he hd,run_bytesToString w _ N cap (S.data.toList.map fun b=>(b.toNat:Int)) hld,Ql7]
 congr 2
 apply ByteArray.ext;have:((fun n:Int=>UInt8.ofNat n.toNat)∘fun b:UInt8=>(b.toNat:Int))=id:=by funext b;simp
 simp [this]
theorem Qbl3 (hH:HRel ng g H w) {src dst:TypeId} {x r:AVal} {u:Value} (h:Qhy P ng src dst x H=some r) (hx:VRel g x u):
  ∃v,(convert src dst u).run P w=.ok v w/\VRel g r v:=by
 unfold Qhy at h;split at h;rename_i e hs hd;split at h;rename_i he;split at h;cases h;cases hx;exact ⟨.string .empty,by rw [run_convert_bytes_string w src dst e none 0 0 hs he hd];simp [Conv.bytesToString],.str _⟩;rename_i b off len cap ex;split at h;rename_i l hl;split at h
 ·rename_i ns hns
  cases h;have:=Q1v hns;subst this;obtain ⟨vs,k1,k2,k3,_,_⟩:=Qod (P:=P) hH hl hx (by simp);have:=LRel.ints k3;subst this;cases hx with
  |slice _ _ _ _ _ o' cap' L hL _ _ _=>
   have hld:(loadCells ⟨L.blk,L.dl+o',none⟩ len).run P w=.ok (ns.map (Value.int .u8)).toArray w:=by
    have:=k1 w rfl;simpa [Builtin.firstCells] using this
   refine ⟨.string ⟨(ns.map fun n=>UInt8.ofNat n.toNat).toArray⟩,?_,.str _⟩;rw [run_convert_bytes_string w src dst e _ len cap' hs he hd,run_bytesToString w _ len cap' ns hld,Ql7]
   congr 3
   show (#[]:Array UInt8)++_=_;simp
 split at h
 ·rename_i hu8
  obtain ⟨q,hq1,hq2⟩:=Qcp hH.sig h;obtain ⟨ns,hns⟩:=Qs8 g.sig hu8;obtain ⟨vs,k1,k2,k3,_,_⟩:=Qod (P:=P) hH hl hx (by simp);have k3':=k3.dens;rw [hns] at k3';have:=LRel.ints k3';subst this;cases hx with
  |slice _ _ _ _ _ o' cap' L hL _ _ _=>
   have hld:(loadCells ⟨L.blk,L.dl+o',none⟩ len).run P w=.ok (ns.map (Value.int .u8)).toArray w:=by
    have:=k1 w rfl;simpa [Builtin.firstCells] using this
   refine ⟨.string ⟨(ns.map fun n=>UInt8.ofNat n.toNat).toArray⟩,?_,hq2 _ ?_⟩;rw [run_convert_bytes_string w src dst e _ len cap' hs he hd,run_bytesToString w _ len cap' ns hld,Ql7]
   congr 3
   show (#[]:Array UInt8)++_=_;simp;simp only [Qb,Option.some.injEq] at hq1;have e1:(l.map fun a=>Qcr (den g.sig a))=ns.map fun n=>UInt8.ofNat n.toNat:=by
    have:(l.map fun a=>Qcr (den g.sig a))=(l.map (den g.sig)).map Qcr:=by simp
    rw [this,hns,List.map_map];rfl
   rw [e1] at hq1;rw [<-hq1];exact .str _
 cases h;cases h;rename_i i;split at h;rename_i s cl hr;split at h
 ·rename_i hcl
  cases h;simp only [decide_eq_true_eq] at hcl;subst hcl;cases hx with
  |row _ X ao cap h1 h2 h3=>
   obtain ⟨z1,S,z2,z3,z4⟩:=hH.sig.rstr i _ _ X hr h1;have hz:X.z=1:=z1.symm;refine ⟨.string S,?_,by rw [<-Qn,z2];exact .str S⟩;rcases Nat.eq_zero_or_pos X.len with h0|h0;exact Qhn (g:=g) (C:= #[]) (blk:=0) (o:=0) (t:=0) (fr:=(0,0)) w hs he hd z3 (fun hp=>absurd hp (by omega)) (fun m hm=>absurd hm (by omega));obtain ⟨C,e',fr,c1,c2,_⟩:=(hH.frz.row i X h1 h0).1;refine Qhn (g:=g) w hs he hd z3 (fun _=>⟨h3 h0,c1⟩) fun m hm=> ?_;obtain ⟨v,v1,v2,_⟩:=c2 m 0 hm (by omega);rw [hz,Nat.mul_one,Nat.add_zero] at v1;exact ⟨v,v1,by rw [<-z4 m 0 hm (by omega)];exact v2 g⟩
 cases h;cases h;rename_i i;split at h;rename_i s cl hr;split at h
 ·rename_i hcl
  cases h;simp only [decide_eq_true_eq] at hcl;subst hcl;cases hx with
  |crow _ X ao h1 h3=>
   obtain ⟨z1,S,z2,z3,z4⟩:=hH.sig.rstr i _ _ X hr h1;have hz:X.z=1:=z1.symm;refine ⟨.string S,?_,by rw [<-Qn,z2];exact .str S⟩;rcases Nat.eq_zero_or_pos X.len with h0|h0;exact Qhn (g:=g) (C:= #[]) (blk:=0) (o:=0) (t:=0) (fr:=(0,0)) w hs he hd z3 (fun hp=>absurd hp (by omega)) (fun m hm=>absurd hm (by omega));obtain ⟨C,e',fr,c1,c2,_⟩:=(hH.frz.row i X h1 h0).1;refine Qhn (g:=g) w hs he hd z3 (fun _=>⟨h3 h0,c1⟩) fun m hm=> ?_;obtain ⟨v,v1,v2,_⟩:=c2 m 0 hm (by omega);rw [hz,Nat.mul_one,Nat.add_zero] at v1;exact ⟨v,v1,by rw [<-z4 m 0 hm (by omega)];exact v2 g⟩
 cases h;cases h;rename_i b z ap off n;split at h;rename_i s nb cl e' hb;split at h;rename_i hcond;simp only [Bool.and_eq_true,decide_eq_true_eq] at hcond;obtain ⟨rfl,c1,c2,c4⟩:=hcond;have c1:=Nat.eq_of_beq_eq_true c1;subst c1;split at h
 ·rename_i c3
  cases h;have c3:=Qoe c3;subst c3;cases hx with
  |lsl _ _ _ _ _ o m cap ao h1 h2 h3 h4 h5=>
   rw [Qdm c2] at h1;simp only [den,AVal.int.injEq,true_and] at h1;have ho:o=0:=by omega
   subst ho;rcases hH.blk0 b _ hb (by simp) with ⟨s',n',cl',e'',hk,hs0,hn0⟩|⟨L,hL,S,N,C,fr,e9,b1,b2,b3,b4,b5,b6,b7,b8⟩
   cases hk;have hm0:m=0:=by
    rw [h2] at hn0;simp only [AVal.int.injEq,true_and] at hn0;omega
   subst hm0;refine ⟨.string .empty,?_,by rw [<-Qn,hs0];exact .str _⟩;exact Qhn (g:=g) (C:= #[]) (blk:=0) (o:=0) (t:=0) (fr:=(0,0)) w hs he hd (by simp) (fun hp=>absurd hp (by omega)) (fun m hm=>absurd hm (by omega));have hN:N=m:=by
    rw [h2] at b2;simp only [AVal.int.injEq,true_and] at b2;omega
   subst hN;refine ⟨.string S,?_,by rw [<-Qn,b1];exact .str S⟩;refine Qhn (g:=g) (C:=C) (blk:=L.blk) (o:=L.dl) (t:=e9) (fr:=fr) w hs he hd b3 (fun hp=> ?_) fun m hm=> ?_;obtain ⟨L',k1,k2,k3⟩:=h5 hp;rw [hL] at k1;cases k1;exact ⟨by rw [k2];simp,b4⟩;obtain ⟨v,v1,v2,_⟩:=b8 m 0 hm (by simp);exact ⟨v,by simpa using v1,v2⟩
 split at h
 ·rename_i c3
  obtain ⟨q,hq1,hq2⟩:=Qcp hH.sig h;cases hx with
  |lsl _ _ _ _ _ o m cap ao h1 h2 h3 h4 h5=>
   rw [Qdm c2] at h1;simp only [den,AVal.int.injEq,true_and] at h1;have ho:o=0:=by omega
   subst ho;have c4':=Qgd hH.sig c4 rfl h2;rcases hH.blk0 b _ hb (by simp) with ⟨s',n',cl',e'',hk,hs0,hn0⟩|⟨L,hL,S,N,C,fr,e9,b1,b2,b3,b4,b5,b6,b7,b8⟩
   cases hk;have:=Qco hH.sig c3 h2 hn0;omega;have hmN:=Qco hH.sig c3 h2 b2;simp only [Qb,List.map,b1,h2] at hq1;simp only [den,sopA,Option.some.injEq] at hq1;subst hq1;refine ⟨.string (S.extract (0:Int).toNat (m:Int).toNat),?_,hq2 _ (.str _)⟩;refine Qhn (g:=g) (C:=C) (blk:=L.blk) (o:=L.dl) (t:=e9) (fr:=fr) w hs he hd ?_ (fun hp=> ?_) fun k hk=> ?_;simp only [rsz,csz] at b3⊢;simp only [ByteArray.data_extract,Array.toList_extract,List.extract_eq_take_drop,List.length_take,List.length_drop];omega;obtain ⟨L',k1,k2,k3⟩:=h5 hp;rw [hL] at k1;cases k1;exact ⟨by rw [k2];simp,b4⟩;obtain ⟨v,v1,v2,_⟩:=b8 k 0 (by omega) (by simp);refine ⟨v,by simpa using v1,?_⟩;have hk1:k<(S.extract (0:Int).toNat (m:Int).toNat).data.toList.length:=by
    simp only [ByteArray.data_extract,Array.toList_extract,List.extract_eq_take_drop,List.length_take,List.length_drop];simp only [rsz,csz] at b3;omega
   have hk2:k<S.data.toList.length:=by
    simp only [rsz,csz] at b3;omega
   rw [Qxe hk1];rw [Qxe hk2] at v2;have:(S.extract (0:Int).toNat (m:Int).toNat).data.toList[k]=S.data.toList[k]:=by
    simp [List.extract_eq_take_drop]
   rw [this];exact v2
 cases h;cases h;cases h;cases h;cases h;cases h
theorem Quw {d:TypeDesc} {k:AVal} {u:Value} (h:keyA d k=some u):MapKept.IsKey d u/\ ∀(v:Value),VRel g k v->v=u:=by
 unfold keyA at h;split at h;split at h;rename_i hk;cases h;subst hk;exact ⟨rfl,fun v hv=>by cases hv;rfl⟩;cases h;cases h;exact ⟨trivial,fun v hv=>by cases hv;rfl⟩;cases h;exact ⟨trivial,fun v hv=>by cases hv;rfl⟩;cases h
theorem Qbm4 {d:TypeDesc} {k k':AVal} {u u':Value} (h:keyA d k=some u) (h':keyA d k'=some u'):Qgm k k'=true↔u=u':=by
 cases d with
 |int kd=>
  cases k<;>simp only [keyA] at h<;>first|cases h|skip
  cases k'<;>simp only [keyA] at h'<;>first|cases h'|skip
  split at h;split at h';cases h;cases h';subst_vars;simp [Qgm];cases h';cases h
 |string=>
  cases k<;>simp only [keyA] at h<;>first|cases h|skip
  cases k'<;>simp only [keyA] at h'<;>first|cases h'|skip
  simp [Qgm,MapKept.bytes_beq]
 |bool=>
  cases k<;>simp only [keyA] at h<;>first|cases h|skip
  cases k'<;>simp only [keyA] at h'<;>first|cases h'|skip
  simp [Qgm]
 |_=>simp [keyA] at h
theorem Qbcx {d:TypeDesc} {k:AVal} {u:Value} (hk:keyA d k=some u): ∀{l:List (AVal×AVal)} {m:List MapEntry} {r:Option AVal},Qfa d k l=some r->MRel g l m->
  (∀x∈m,MapKept.IsKey d x.key)/\(∀x∈m,x.key=u-> ∃v,r=some v/\VRel g v x.val)/\(∀v,r=some v-> ∃x∈m,x.key=u):=by
 intro l m r h hm;induction hm generalizing r with
 |nil=>
  simp only [Qfa] at h;cases h;exact ⟨by simp,by simp,by simp⟩
 |cons k' v e l m h1 h2 h3 ih=>
  simp only [Qfa] at h;split at h;rename_i u' hu';obtain ⟨i1,i2⟩:=Quw (g:=g) hu';have i3:=i2 _ h1;have hs:=Qbm4 hu' hk;split at h;rename_i hsame;have huu:=hs.1 hsame;split at h;rename_i hf;cases h;obtain ⟨j1,j2,j3⟩:=ih hf;refine ⟨?_,?_,?_⟩;intro x hx;rcases List.mem_cons.1 hx with rfl|hx
  rw [i3];exact i1;exact j1 x hx;intro x hx hxu;rcases List.mem_cons.1 hx with rfl|hx
  exact ⟨v,rfl,h2⟩;obtain ⟨v',hv',_⟩:=j2 x hx hxu;cases hv';intro _ _;exact ⟨e,by simp,by rw [i3,huu]⟩;cases h;rename_i hsame;obtain ⟨j1,j2,j3⟩:=ih h;refine ⟨?_,?_,?_⟩;intro x hx;rcases List.mem_cons.1 hx with rfl|hx
  rw [i3];exact i1;exact j1 x hx;intro x hx hxu;rcases List.mem_cons.1 hx with rfl|hx
  exact absurd (hs.2 (by rw [<-i3,hxu])) (by simp [hsame]);exact j2 x hx hxu;intro v' hv';obtain ⟨x,hx,hxu⟩:=j3 v' hv';exact ⟨x,by simp [hx],hxu⟩;cases h
theorem Qbcw {d:TypeDesc} {k:AVal} {u:Value} (hk:keyA d k=some u) {l:List (AVal×AVal)} {m es:List MapEntry} {r:Option AVal} (h:Qfa d k l=some r) (hm:MRel g l m) (hp:es.Perm m):
  (r=none/\Instr.findNow d u es 0=some none)\/ ∃v j x,r=some v/\Instr.findNow d u es 0=some (some (j,x))/\VRel g v x:=by
 obtain ⟨j1,j2,j3⟩:=Qbcx hk h hm;rcases MapKept.findNow_spec (Quw (g:=g) hk).1 es 0 (fun x hx=>j1 x (hp.mem_iff.1 hx)) with ⟨h1,h2⟩|⟨j,e,h1,h2,h3⟩
 ·refine .inl ⟨?_,h1⟩
  cases r with
  |none=>rfl
  |some v=>
   obtain ⟨x,hx,hxu⟩:=j3 v rfl;exact absurd hxu (h2 x (hp.mem_iff.2 hx))
 obtain ⟨v,hv,hr⟩:=j2 e (hp.mem_iff.1 (List.mem_of_getElem? h2)) h3;exact .inr ⟨v,_,e.val,hv,h1,hr⟩
theorem Qbmk (hH:HRel ng g H w) {ty:TypeId} {x k r:AVal} {ok:Bool} {u q:Value} (h:Qic P ng ty x k ok H=some r) (hx:VRel g x u) (hk:VRel g k q):
  ∃v,(Instr.lookup ty u q ok).run P w=.ok v w/\VRel g r v:=by
 unfold Qic at h;cases h
theorem Qbl8 (w:World) (hg:ng.Good g.sig) {src dst:TypeId} {a:AVal} {u:Value} (he:Qt0 ng a=true) (hb:Qti P src dst=true) (ha:VRel g a u):
  ∃v,(convert src dst u).run P w=.ok v w/\VRel g (.str .empty) v:=by
 unfold Qt0 at he;split at he;rename_i b z ap off n;split at he;rename_i bb hs;have hbb:bb=false:=by simpa using he
 subst hbb;unfold Qti at hb;split at hb;rename_i e h1 h2;split at hb
 ·rename_i h3
  cases ha with
  |lsl _ _ _ _ _ o m cap ao k1 k2 k3 k4 k5=>
   obtain ⟨q,q1,q2⟩:=Qcp hg hs;simp only [Qb] at q1;rw [k2] at q1;simp only [den,binS,intA,if_true,Option.some.injEq] at q1;subst q1;have h5:decide ((0:Int)<(m:Int))=false:=by
    have:=q2 _ (.bool _);generalize decide ((0:Int)<(m:Int))=d at this;cases this;rfl
   rw [decide_eq_false_iff_not] at h5;have hm:m=0:=by omega
   subst hm;exact ⟨.string .empty,Qhn (g:=g) (S:=.empty) (C:= #[]) (blk:=0) (o:=0) (t:=0) (fr:=(0,0)) w h1 h3 h2 (by simp) (fun hp=>absurd hp (by omega)) (fun m hm=>absurd hm (by omega)),.str _⟩
 cases hb;cases hb;cases he;cases he
theorem Qbjb (hH:HRel ng g H w) (hρ:ERel g ng t ρ) {o:Oper} {r:AVal} {b:Option Nat} (h:Qcv P ng t o.op H=some (r,b)):
  ∃v,(execOp ρ o).run P w=.ok (.value v) w/\VRel g r v:=by
 obtain ⟨dst,op,type,pos,after,guard⟩:=o;simp only at h;unfold Qcv at h;split at h;rename_i ty a;split at h;rename_i x hx;split at h;rename_i v hv;cases h;obtain ⟨u,h1,h2⟩:=Qbmj (P:=P) hH hv (hρ a _ hx);exact ⟨u,by simp [execOp,h1],h2⟩;cases h;cases h;rename_i src dst x;split at h;rename_i a ha;split at h;rename_i hem;split at h;rename_i hbt;cases h;obtain ⟨v,h1⟩:=Qbl8 (P:=P) w hH.sig hem hbt (hρ x _ ha);exact ⟨v,by simp [execOp,h1.1],h1.2⟩;cases h;rename_i hem;split at h;rename_i v hv;cases h;obtain ⟨u,h1,h2⟩:=Qbl3 (P:=P) hH hv (hρ x _ ha);exact ⟨u,by simp [execOp,h1],h2⟩;cases h;cases h;rename_i ty x k ok;split at h;rename_i a kv ha hkv;split at h;rename_i v hv;cases h;obtain ⟨u,h1,h2⟩:=Qbmk (P:=P) hH hv (hρ x _ ha) (hρ k _ hkv);exact ⟨u,by simp [execOp,h1],h2⟩;cases h;cases h;rename_i it;split at h;rename_i q hq;split at h;rename_i x l k v hb;cases h;obtain ⟨L,hL,X,seen,es',kd,k0,k1,k2,k3,k4⟩:=hH.blk q _ hb (by simp);obtain ⟨e,s0,m1,m2,m3,m4⟩:=k4 k v rfl;obtain ⟨_,f1,_⟩:=hH.frz.mp x X k0;have hr:=hρ it _ hq;have hh:ρ it=.pointer (some ⟨L.blk,0,none⟩):=by
  generalize ρ it=u at hr;cases hr with
  |ptr _ _ M hM=>rw [hL] at hM;cases hM;rw [kd]
 subst m2;have:=run_entry_at (P:=P) w L.blk X.blk X.cl s0 X.es X.cl e k1 f1.1 m1 f1.2.1;refine ⟨.tuple #[e.key,e.val],?_,.tuple _ _ (.cons _ _ _ _ m3 (.cons _ _ _ _ m4 .nil))⟩;simp [execOp,hh,this];cases h;cases h;cases h
theorem Qba7 {size n:Nat} {x:AVal} {l:List AVal} {H H':List Blk} (h:Qeq size n x H=some l) (hh: ∀b off len cap ex,x=.slice b off len cap ex-> ¬n*size=0->H'[b]? =H[b]?):Qeq size n x H'=some l:=by
 unfold Qeq at h⊢;split at h;exact h;rename_i b off len cap ex;split at h;rename_i hp;simp only [if_pos hp];split at h;rename_i hz;rw [if_pos hz];exact h;rename_i hz;rw [if_neg hz,hh b off len cap ex rfl hz];exact h;cases h;exact h;cases h
theorem Qbi8 {op:Op} {v:AVal} {b:Option Nat} {H H':List Blk} (h:Qcv P ng t op H=some (v,b)) (hb: ∀x,b=some x->H'[x]? =H[x]?):Qcv P ng t op H'=some (v,b):=by
 unfold Qcv at h⊢;split at h;split at h;rename_i x hx;split at h;rename_i u hu;cases h;unfold Qgb at hu;split at hu;simp only [Qgb,hu];rename_i b z ix j;have:=hb b rfl;unfold Qj8 at hu;simp only [Qgb,Qj8,this];rw [hu];rename_i hne;unfold Qgc at hu;split at hu;rename_i b off _;have:=hb b rfl;simp only [Qgb,Qgc,this];rw [hu];cases hu;cases h;cases h;rename_i src dst xx;split at h;rename_i a ha;split at h;exact h;rename_i hem;clear hem;split at h;rename_i u hu;cases h;have:Qhy P ng src dst a H'=some v:=by
  unfold Qhy at hu⊢;split at hu;rename_i e h1 h2;split at hu;rename_i h3;split at hu;exact hu;rename_i b off len cap ex;split at hu;rename_i l hl;have:=Qba7 (H':=H') hl (fun b' off' len' cap' ex' he hz=>by
   cases he;exact hb b (by simp only [Qdj];rw [if_neg (by intro h0;apply hz;rw [h0])]))
  simp only [this];exact hu;cases hu;exact hu;exact hu;rename_i b z ap off n;have:=hb b rfl;simp only [this];exact hu;cases hu;cases hu;cases hu
 simp only [this];cases h;cases h;rename_i ty x k ok;split at h;rename_i a kv ha hkv;split at h;rename_i u hu;cases h;have:Qic P ng ty a kv ok H'=some v:=by
  unfold Qic at hu;cases hu
 simp only [this];cases h;cases h;split at h;rename_i q hq;split at h;rename_i x l k v' hb';cases h;have:=hb q rfl;simp only [this,hb'];cases h;cases h;cases h
theorem Qbja {op:Op} {v:AVal} {x:Nat} {H:List Blk} (h:Qcv P ng t op H=some (v,some x)): ∃k,H[x]? =some k/\k≠.gone:=by
 unfold Qcv at h;split at h;split at h;rename_i y hy;split at h;rename_i u hu;injection h with h
 injection h with h1 h2
 unfold Qgb at hu;split at hu;simp [Qdj] at h2;simp only [Qdj,Option.some.injEq] at h2;subst h2;unfold Qj8 at hu;split at hu;rename_i s n cl e hc;exact ⟨_,hc,by simp⟩;cases hu;unfold Qgc at hu;split at hu;rename_i b off;simp only [Qdj,Option.some.injEq] at h2;subst h2;split at hu;rename_i c e hc;exact ⟨_,hc,by simp⟩;cases hu;cases hu;cases h;cases h;split at h;rename_i a ha;split at h;split at h<;>cases h;rename_i hem;split at h;rename_i u hu;injection h with h
 injection h with h1 h2
 unfold Qhy at hu;split at hu;split at hu;split at hu;simp [Qdj] at h2;rename_i b off len cap ex;simp only [Qdj] at h2;split at h2;cases h2;rename_i hlen;cases h2;split at hu;rename_i l hl;unfold Qeq at hl;simp only at hl;split at hl;rw [if_neg (by simpa using hlen)] at hl;split at hl;rename_i c e hc;exact ⟨_,hc,by simp⟩;cases hl;cases hl;cases hu;simp [Qdj] at h2;simp [Qdj] at h2;simp only [Qdj,Option.some.injEq] at h2;subst h2;split at hu;rename_i s nb cl e' hc;exact ⟨_,hc,by simp⟩;cases hu;cases hu;cases hu;cases hu;cases h;cases h;split at h;rename_i a kv ha hkv;split at h;rename_i u hu;injection h with h
 injection h with h1 h2
 unfold Qic at hu;cases hu;cases h;cases h;split at h;split at h;rename_i hb;cases h;exact ⟨_,hb,by simp⟩;cases h;cases h;cases h
theorem Qr8 {a:AVal} {u:Value} {x:Nat} (h:Qdj a=some x) (hr:VRel g a u) (hn: ∀b z ap off n,a≠.lsl b z ap off n:=by intros;simp): ∃L,g x=some L:=by
  cases hr
  case lsl=>exact absurd rfl (hn _ _ _ _ _)
  all_goals simp only [Qdj] at h
  all_goals first
    | (cases h;exact ⟨_,by assumption⟩)
    | (split at h
       . cases h
       . cases h;exact ⟨_,by assumption⟩)
    |cases h
theorem Qbi9 (hρ:ERel g ng t ρ) {op:Op} {v:AVal} {x:Nat} {H:List Blk} (h:Qcv P ng t op H=some (v,some x)): ∃L,g x=some L:=by
 unfold Qcv at h;split at h;split at h;rename_i y hy;split at h;rename_i u hu;injection h with h
 injection h with h1 h2
 exact Qr8 h2 (hρ _ _ hy) (by rintro b z ap off n rfl;simp [Qgb,Qgc] at hu);cases h;cases h;split at h;rename_i a ha;split at h;split at h<;>cases h;rename_i hem;split at h;rename_i u hu;injection h with h
 injection h with h1 h2
 by_cases hn: ∃b z ap off n,a=.lsl b z ap off n;obtain ⟨b,z,ap,off,n,rfl⟩:=hn;simp only [Qdj,Option.some.injEq] at h2;subst h2;unfold Qhy at hu;split at hu;split at hu;simp only at hu;split at hu;split at hu
 ·rename_i hc
  simp only [Bool.and_eq_true] at hc;have hx:=hρ _ _ ha;generalize ρ _=u' at hx;cases hx with
  |lsl _ _ _ _ _ o m cap ao k1 k2 k3 k4 k5=>
   have:=Qgd hρ.sig hc.2.2.2 rfl k2;obtain ⟨L,l1,_⟩:=k5 (by omega);exact ⟨L,l1⟩
 cases hu;cases hu;cases hu;cases hu;exact Qr8 h2 (hρ _ _ ha) (fun b z ap off n e=>hn ⟨b,z,ap,off,n,e⟩);cases h;cases h;split at h;rename_i a kv ha hkv;split at h;rename_i u hu;injection h with h
 injection h with h1 h2
 refine Qr8 h2 (hρ _ _ ha) ?_;rintro b z ap off n rfl;unfold Qic at hu;cases hu;cases h;cases h;split at h;rename_i q hq;split at h;cases h;exact Qr8 (a:=.ptr x 0) rfl (hρ _ _ hq);cases h;cases h;cases h
end
end Go.Ev
namespace Go.Ev
def repL (l:List AVal):Nat->List AVal
 |0=>[]
 |n+1=>l++repL l n
def Qcn:List AVal->Bool
 |[]=>true
 |a::l=>scalar a&&Qcn l
inductive Mk where
 |ptr
 |slice (len cap:Nat) (ex:Option Nat)
def Mk.val (m:Mk) (id:Nat):AVal:=
 match m with
 |.ptr=> .ptr id 0
 |.slice len cap ex=> .slice id 0 len cap ex
def Qf3 (P:Program) (ng:Cx) (t:Tm) (op:Op):Option (List AVal×TypeId×Mk):=
 match op with
 |.alloc e=>match Qfq P e with
  |some z=>match Qcn (Q6 z) with
   |true=>some (Q6 z,e,.ptr)
   |false=>none
  |none=>none
 |.box e x=>match ev ng t x with
  |some a=>match Qcn (Q6 a) with
   |true=>some (Q6 a,e,.ptr)
   |false=>none
  |none=>none
 |.buildSlice ty n parts=>match P.underlying ty with
  |some (.slice e)=>match P.info? e,Qfq P e,evP ng t parts.toList with
   |some ie,some z,some l=>
    if n*ie.size<=16777216/\(Q6 z).length=ie.size then
     match Qh3 (fun i=>some (i*ie.size,ie.size)) (repL (Q6 z) n) l with
     |some c=>match Qcn c with
      |true=>some (c,e,.slice n n none)
      |false=>none
     |none=>none
    else none
   |_,_,_=>none
  |_=>none
 |.makeSlice ty l c=>match P.underlying ty,ev ng t l,ev ng t c with
  |some (.slice e),some (.int _ l),some (.int _ c)=>match P.info? e,Qfq P e with
   |some ie,some z=>
    if (0<=l/\l<=c)/\(ie.bytes:Int)*c<=281474976710656/\c<=9223372036854775807/\(Q6 z).length=ie.size then
     match Qcn (Q6 z) with
     |true=>some (repL (Q6 z) c.toNat,e,.slice l.toNat c.toNat none)
     |false=>none
    else none
   |_,_=>none
  |_,_,_=>none
 |.convert src dst x=>match P.underlying src,P.underlying dst with
  |some .string,some (.slice e)=>match P.underlying e,ev ng t x with
   |some (.int .u8),some (.str s)=>some (s.toList.map fun b=>AVal.int .u8 b.toNat,e,.slice s.size s.size (some 1))
   |some (.int .u8),some (.syms i)=>match Qx1 ng i with
    |some l=>some (l,e,.slice l.length l.length (some 1))
    |none=>none
   |_,_=>none
  |_,_=>none
 |_=>none
theorem Qy5 {s:ByteArray} {cap:Nat}: ∀v,v∈(bytesRow s cap).toList->v.oneCell'=true:=by
 intro v hv;simp only [bytesRow,Array.toList_append,List.mem_append,Array.toList_map,List.mem_map,Array.toList_replicate] at hv;rcases hv with ⟨b,_,rfl⟩|hv
 rfl;rw [List.eq_of_mem_replicate hv];rfl
theorem Qds {g:Inj}: ∀{l:List AVal} {m:List Value},Qcn l=true->LRel g l m-> ∀v∈m,v.oneCell'=true
 |[],_,_,hr=>by cases hr;simp
 |a::l,_,h,hr=>by
  cases hr with
  |cons _ v _ m hv hr=>
  simp only [Qcn,Bool.and_eq_true] at h;intro u hu;rcases List.mem_cons.1 hu with rfl|hu
  exact hv.scalar h.1;exact Qds h.2 hr u hu
theorem Qsa (l:List AVal): ∀n,(repL l n).length=n*l.length
 |0=>by simp [repL]
 |n+1=>by simp [repL,Qsa l n,Nat.add_mul,Nat.add_comm]
theorem Q72 (l:List AVal): ∀(n i:Nat),i<n*l.length->(repL l n)[i]? =l[i%l.length]?
 |0,i,h=>by simp at h
 |n+1,i,h=>by
  simp only [repL];by_cases hi:i<l.length;rw [List.getElem?_append_left hi,Nat.mod_eq_of_lt hi];rw [List.getElem?_append_right (by omega)];have h1:i-l.length<n*l.length:=by
   rw [Nat.add_mul] at h;omega
  rw [Q72 l n _ h1]
  congr 1
  have:=Nat.mod_eq_sub_mod (a:=i) (b:=l.length) (by omega);exact this.symm
theorem Q73 {g:Inj} {l:List AVal} {C:Array Value} (h:LRel g l C.toList) (n k:Nat) (hk:k=n*l.length):
  LRel g (repL l n) ((Array.range k).map (C[· %C.size]!)).toList:=by
 have hlen:=h.length;refine LRel.of_get (by rw [Qsa];simp [hk]) ?_;intro i a hi;have hlt:i<n*l.length:=by rw [<-Qsa];exact (List.getElem?_eq_some_iff.1 hi).1
 rw [Q72 l n i hlt] at hi;obtain ⟨v,h1,h2⟩:=h.get _ _ hi;refine ⟨v,?_,h2⟩;have hpos:0<l.length:=by
  rcases Nat.eq_zero_or_pos l.length with h0|h0;rw [h0] at hlt;simp at hlt;exact h0
 have hs:C.size=l.length:=by simp at hlen;exact hlen.symm
 have hm:i%l.length<C.size:=by rw [hs];exact Nat.mod_lt _ hpos
 simp only [Array.toList_map,Array.toList_range,List.getElem?_map,hk,List.getElem?_range hlt,Option.map_some,hs]
 congr 1
 rw [getElem!_pos C _ hm];have h3:C[i%l.length]? =some v:=by simpa using h1
 rw [Array.getElem?_eq_getElem hm] at h3;exact Option.some.inj h3
theorem Qxv {l:List AVal} (h:Qcn l=true): ∀n,Qcn (repL l n)=true
 |0=>rfl
 |n+1=>by
  simp only [repL];have key: ∀(a b:List AVal),Qcn a=true->Qcn b=true->Qcn (a++b)=true:=by
   intro a;induction a with
   |nil=>intro b _ h;simpa using h
   |cons x a ih=>intro b h1 h2;simp only [Qcn,Bool.and_eq_true,List.cons_append] at h1⊢;exact ⟨h1.1,ih b h1.2 h2⟩
  exact key _ _ h (Qxv h n)
section
variable {P : Program} {g : Inj} {ng : Cx} {t : Tm} {ρ : Operand -> Value} {H : List Blk} {w : World}
structure Fresh (P:Program) (g:Inj) (ρ:Operand->Value) (w:World) (o:Oper) (c:List AVal) (e:TypeId) (m:Mk) (v:Value) (C:Array Value) (fr:Nat×Nat) (w0:World):Prop where
 run:(execOp ρ o).run P w=.ok (.value v) (w0.alloc (.cells C e fr))
 heap:w0.heap=w.heap
 os:w0.os=w.os
 tape:w0.tape=w.tape
 output:w0.output=w.output
 fr:FrOk fr C
 len:c.length<=C.size
 rel:CRel g c C 0
 val: ∀g' id,g' id=some (⟨w.heap.size,0,C.size⟩:Loc)->VRel g' (m.val id) v
theorem Q1e (hρ:ERel g ng t ρ) {o:Oper} {c:List AVal} {e:TypeId} {m:Mk} (h:Qf3 P ng t o.op=some (c,e,m)): ∃v C fr w0,Fresh P g ρ w o c e m v C fr w0:=by
 obtain ⟨dt,op,type,pos,after,guard⟩:=o;simp only at h;unfold Qf3 at h;have ptr: ∀(sz:Nat) (g':Inj) (id:Nat),g' id=some (⟨w.heap.size,0,sz⟩:Loc)->VRel g' ((Mk.ptr).val id) (.pointer (some ⟨w.heap.size,0,none⟩)):=by
  intro sz g' id hg';simpa [Mk.val] using VRel.ptr id 0 _ hg'
 have slc: ∀(sz n k:Nat) (g':Inj) (id:Nat),g' id=some (⟨w.heap.size,0,sz⟩:Loc)->VRel g' ((Mk.slice n k none).val id) (.slice (some ⟨w.heap.size,0,none⟩) n k):=by
  intro sz n k g' id hg';simpa [Mk.val] using VRel.slice id 0 n k none 0 k _ hg' (.inl rfl) (fun _=>rfl) (by simp)
 split at h;rename_i el;split at h;rename_i z hz;obtain ⟨i,zv,hi,hzv,hzr⟩:=Qht hz;split at h;rename_i hs;cases h;have hr:=(hzr g).cells;exact ⟨_,zv.cells,(0,0),w,by simp [execOp,Instr.alloc,zeroValue,typeInfo,hi,hzv,newVar,newRow],rfl,rfl,rfl,rfl,FrOk.zero (Qds hs hr),by have:=hr.length;simp at this;omega,CRel.of_list hr (Qds hs hr),ptr _⟩;cases h;cases h;rename_i el x;split at h;rename_i a ha;split at h;rename_i hs;cases h;have hr:=(hρ x _ ha).cells;exact ⟨_,(ρ x).cells,(0,0),w,by simp [execOp,Instr.box,newVar,newRow],rfl,rfl,rfl,rfl,FrOk.zero (Qds hs hr),by have:=hr.length;simp at this;omega,CRel.of_list hr (Qds hs hr),ptr _⟩;cases h;cases h;rename_i ty n parts;split at h;rename_i el hu;split at h;rename_i ie z l hie hz hl;split at h;rename_i hc;obtain ⟨hc1,hc2⟩:=hc;split at h;rename_i cs hf;split at h;rename_i hs;cases h;obtain ⟨i,zv,hi,hzv,hzr⟩:=Qht hz;rw [hie] at hi;cases hi;obtain ⟨i1,i2⟩:=Qub hρ _ _ hl;have hrep:=Q73 (hzr g).cells n (n*ie.size) (by rw [hc2]);obtain ⟨R,hR,hRr⟩:=Qp1 (g:=g) (fun i=>some (i*ie.size,ie.size)) (parts':=(parts.map fun (i,x)=>(i,ρ x)).toList) hf (by simpa using i1) (by simpa using i2) hrep;refine ⟨_,R,(0,0),w,?_,rfl,rfl,rfl,rfl,FrOk.zero (Qds hs hRr),by have:=hRr.length;simp at this;omega,CRel.of_list hRr (Qds hs hRr),slc _ _ _⟩;have hsm: ¬(2^24<n*ie.size):=by omega
 by_cases h0:n*ie.size=0;have hR':Instr.fill (fun i=>some (i*ie.size,ie.size)) (Array.map (fun x=>(#[]:Array Value)[x%0]!) (Array.range 0)) (parts.map fun (i,x)=>(i,ρ x)).toList=some R:=by
  rw [h0] at hR;simpa [Array.range_zero'] using hR
 simp only [Array.range_zero'] at hR';simp [execOp,Instr.buildSlice,run_underlying hu,Qbg w hie,h0,Array.range_zero'] at hR'⊢;rw [hR'];simp [newRow];simp only [execOp,Sem.run_bind,run_buildSlice w ty e n _ R ie zv hu hie hzv (by omega) h0 hR,Result.andThen_ok];rfl;cases h;cases h;cases h;cases h;cases h;rename_i ty l c;split at h;rename_i el kl l' kc c' hu hl hc;split at h;rename_i ie z hie hz;split at h;rename_i hcond;obtain ⟨⟨c1,c2⟩,c3,c4,c5⟩:=hcond;split at h;rename_i hs;cases h;obtain ⟨i,zv,hi,hzv,hzr⟩:=Qht hz;rw [hie] at hi;cases hi;have h1:=hρ l _ hl;have h2:=hρ c _ hc;have hrep:=Q73 (hzr g).cells c'.toNat (c'.toNat*ie.size) (by rw [c5]);have hrun:=run_make (P:=P) w ty e ie zv hu hie hzv kl kc l' c' c1 c2 c3 c4;cases hh1:ρ l<;>rw [hh1] at h1<;>cases h1;cases hh2:ρ c<;>rw [hh2] at h2<;>cases h2;refine ⟨_,madeCells zv.cells (c'.toNat*ie.size),(0,0),w,?_,rfl,rfl,rfl,rfl,FrOk.zero (Qds (Qxv hs _) hrep),by rw [Qsa,size_madeCells,c5];exact Nat.le_refl _,CRel.of_list hrep (Qds (Qxv hs _) hrep),slc _ _ _⟩;simp [execOp,hh1,hh2,hrun];cases h;cases h;cases h;cases h;rename_i src dst x;split at h;rename_i el hs hd;have gen: ∀(s:ByteArray) (cs:List AVal) (n:Nat),cs.length=s.size->n=s.size->(∀(k:Nat) (a:AVal),cs[k]? =some a-> ∃b:UInt8,s.data.toList[k]? =some b/\VRel g a (.int .u8 b.toNat))->P.underlying el=some (.int .u8)->ρ x=.string s->
   ∃v C fr w0,Fresh P g ρ w ⟨dt,.convert src dst x,type,pos,after,guard⟩ cs el (.slice n n (some 1)) v C fr w0:=by
  intro s cs n hcs hn hcell he hh;subst hn;have hrun:=run_bytes_of_string (P:=P) w src dst el s hs hd he;have hge:=grownCap_ge w s.size 0 el;have hsz:(bytesRow s (grownCap w s.size 0 el)).size=grownCap w s.size 0 el:=by
   have:s.data.size=s.size:=rfl;simp [bytesRow,this];omega
  refine ⟨.slice (some ⟨w.heap.size,0,none⟩) s.size (grownCap w s.size 0 el),bytesRow s (grownCap w s.size 0 el),((bytesRow s (grownCap w s.size 0 el)).size,(bytesRow s (grownCap w s.size 0 el)).size+1),w.drew,by simp [execOp,hh,hrun],rfl,rfl,rfl,rfl,FrOk.behind Qy5,?_,?_,?_⟩;rw [hsz,hcs];exact hge;intro i a hi;obtain ⟨b,hb,hr⟩:=hcell i a hi;refine ⟨.int .u8 b.toNat,?_,hr,rfl⟩;have hlt:i<s.data.size:=by have:=(List.getElem?_eq_some_iff.1 hb).1;simpa using this
  have hb':s.data[i]=b:=by
   have:=(List.getElem?_eq_some_iff.1 hb).2;simpa using this
  have hlt':i<s.size:=hlt;simp [bytesRow,Array.getElem?_append,hlt'];rw [hb'];intro g' id hg';rw [hsz] at hg';simpa [Mk.val] using VRel.slice id 0 s.size s.size (some 1) 0 (grownCap w s.size 0 el) _ hg' (.inl rfl) (by simp) (fun z hz=>by cases hz;exact ⟨hge,by simp⟩)
 split at h;rename_i s he hx;cases h;have h1:=hρ x _ hx;cases hh:ρ x<;>rw [hh] at h1<;>cases h1;refine gen s (s.toList.map fun b=>AVal.int .u8 b.toNat) s.size (by simp [ByteArray.toList_eq]) rfl (fun k a ha=> ?_) he hh;simp only [List.getElem?_map,Option.map_eq_some_iff] at ha;obtain ⟨b,hb,rfl⟩:=ha;rw [ByteArray.toList_eq] at hb;exact ⟨b,hb,.int _ _⟩;rename_i i he hx;split at h;rename_i l hl;cases h;have h1:=hρ x _ hx;cases hh:ρ x<;>rw [hh] at h1<;>cases h1;obtain ⟨c1,c2⟩:=Qbnv hρ.sig hl;exact gen (g.sig.s i) _ _ c1 c1 c2 he hh;cases h;cases h;cases h;cases h
def Qgp (P:Program) (ty:TypeId) (a v:AVal) (hp:Hp):Option Hp:=
 match a with
 |.ptr b off=>match hp.heap[b]? with
  |some (.cells c e)=>match P.info? ty with
   |some i=>
    if (Q6 v).length=i.size/\off+(Q6 v).length<=c.length then
     match Qcn (Q6 v) with
     |true=>some ⟨hp.heap.set b (.cells (Qd4 c off (Q6 v)) e),b::hp.log⟩
     |false=>none
    else none
   |none=>none
  |_=>none
 |_=>none
theorem Ql6: ∀(us:List Value) (i off:Nat) (C:Array Value),(∀u∈us,u.oneCell'=true)->(∀v,v∈C.toList->v.oneCell'=true)-> ∀v,v∈((us.zipIdx i).foldl (fun cs (x:Value×Nat)=>cs.setIfInBounds (off+x.2) x.1) C).toList->v.oneCell'=true
 |[],_,_,_,_,h,v,hv=>h v hv
 |u::us,i,off,C,hu,h,v,hv=>by
  simp only [List.zipIdx_cons,List.foldl_cons] at hv;refine Ql6 us (i+1) off _ (fun u hu'=>hu u (List.mem_cons_of_mem _ hu')) (fun v hv=> ?_) v hv;rw [Array.toList_setIfInBounds] at hv;rcases List.mem_or_eq_of_mem_set hv with h1|h1
  exact h v h1;subst h1;exact hu _ (List.mem_cons_self ..)
theorem BRel.sets {g:Inj} {w':World} {c:List AVal} {e:TypeId} {L:Loc} {C:Array Value} {fr:Nat×Nat} {vs:List AVal} {us:List Value} {off:Nat}
  (h2:C.size=L.dl+L.n) (h3:FrOk fr C) (h4:c.length<=L.n) (h5:CRel g c C L.dl) (hr:LRel g vs us) (h1: ∀u∈us,u.oneCell'=true)
  (hle:off+vs.length<=c.length)
  (hw:w'.heap[L.blk]? =some (.cells ((us.zipIdx 0).foldl (fun cs (x:Value×Nat)=>cs.setIfInBounds (L.dl+off+x.2) x.1) C) e fr)):BRel g w' (.cells (Qd4 c off vs) e) L:=by
 have:=CRel.sets (d:=L.dl) off 0 hr h1 h5 (by omega);refine ⟨_,fr,hw,by rw [Qdz];exact h2,⟨by rw [Qdz];exact h3.not,by rw [Qdz];exact h3.eq,Ql6 us 0 _ C h1 h3.one⟩,by rw [Q82];exact h4,this⟩
theorem Q89 {hp hp':Hp} (hH:HRel ng g hp.heap w) {ty:TypeId} {a v:AVal} {ua uv:Value} (h:Qgp P ty a v hp=some hp') (ha:VRel g a ua) (hv:VRel g v uv):
  ∃w',(Instr.storeAt ty ua uv).run P w=.ok () w'/\HRel ng g hp'.heap w'/\Ext g hp.heap w g hp'.heap w':=by
 unfold Qgp at h;split at h;rename_i b off;split at h;rename_i c e hb;split at h;rename_i i hi;split at h;rename_i hc;split at h
 ·rename_i hs
  cases h;cases ha with
  |ptr _ _ L hL=>
   obtain ⟨M,hM,C,fr,h1,h2,h3,h4,h5⟩:=hH.blk b _ hb (by simp);rw [hL] at hM;cases hM;have hr:=hv.cells;have hlen:=hr.length;have hone:=Qds hs hr;have hle:L.dl+off+0+uv.cells.toList.length<=C.size:=by omega
   obtain ⟨w',k1,k2,k3⟩:=Qk1 (P:=P) L.blk (L.dl+off) e fr uv.cells.toList 0 C w h1 h3.1 hle hone;have hsz:uv.cells.size=i.size:=by simp at hlen;omega
   have hB:=BRel.sets (g:=g) (e:=e) h2 h3 h4 h5 hr hone (by omega) k3;obtain ⟨r1,r2⟩:=hH.write hb hL k2 hB;refine ⟨w',?_,r1,r2⟩;simp only [Instr.storeAt,Instr.sureAddr,storeVar,Sem.run_bind,Sem.run_pure,Result.andThen_ok,Qbg w hi,hsz];simp [k1]
 cases h;cases h;cases h;cases h;cases h
end
end Go.Ev
