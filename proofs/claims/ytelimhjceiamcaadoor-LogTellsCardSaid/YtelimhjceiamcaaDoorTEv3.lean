/- The evaluator, part 3. -/
import Derived.Test.YtelimhjceiamcaaDoorTEv2
set_option linter.unusedVariables false
set_option linter.unusedSimpArgs false
set_option linter.unnecessarySimpa false
namespace Go.Ev
set_option linter.unusedVariables false
set_option linter.unusedSimpArgs false
set_option linter.unnecessarySimpa false
def lenV:AVal->Option Nat
 |.slice _ _ n _ _=>some n
 |.nilslice=>some 0
 |.str s=>some s.size
 |_=>none
def Qblr (ng:Cx) (r size:Nat):Nat->Nat->Option (List AVal)
 |0,_=>some []
 |n+1,j=>match ng.rat r (.int .i64 j) with
  |some cs=>if cs.length=size then match Qblr ng r size n (j+1) with
   |some l=>some (cs++l)
   |none=>none
   else none
  |none=>none
def Qpe (P:Program) (ng:Cx) (ts:List TypeId) (args:List AVal) (hp:Hp):Option (AVal×Hp):=none
def Qo3 (e:TypeId) (size bytes xl:Nat) (l:List AVal) (s:AVal) (hp:Hp):Option (AVal×Hp):=
 match s with
 |.nilslice=>
  if xl=0 then some (.nilslice,hp)
  else if xl<=9223372036854775807/\xl*bytes<=140737488355328 then
   some (.slice hp.heap.length 0 xl xl (some size),⟨hp.heap++[.cells l e],hp.log⟩)
  else none
 |.slice b off len cap ex=>
  if len+xl<=cap then
   if xl=0 then some (.slice b off len cap ex,hp) else match hp.heap[b]? with
   |some (.cells c e')=>if off+len*size+l.length<=c.length then some (.slice b off (len+xl) cap ex,⟨hp.heap.set b (.cells (Qd4 c (off+len*size) l) e'),b::hp.log⟩) else none
   |_=>none
  else if len+xl<=9223372036854775807/\(len+xl)*bytes<=140737488355328 then
   match Qeq size len (.slice b off len cap ex) hp.heap with
   |some old=>match ex with
    |none=>some (.slice hp.heap.length 0 (len+xl) (len+xl) (some size),⟨hp.heap++[.cells (old++l) e],hp.log⟩)
    |some z=>match hp.heap[b]? with
     |some (.cells _ e')=>if z=size/\e'=e/\len<=cap then
       some (.slice hp.heap.length 0 (len+xl) (len+xl) (some size),⟨hp.heap.set b .gone++[.cells (old++l) e],b::hp.log⟩) else none
     |_=>none
   |none=>none
  else none
 |_=>none
def Qgi:TypeDesc->Bool
 |.slice _=>true
 |.string=>true
 |_=>false
def Qlg (P:Program) (ts:List TypeId) (args:List AVal) (hp:Hp):Option (AVal×Hp):=
 match ts,args with
 |[t,xt],[s,x]=>match P.underlying t,P.underlying xt with
  |some (.slice e),some dx=>match P.info? e,Qfq P e,lenV x with
   |some ie,some z,some xl=>
    if Qgi dx=true/\(Q6 z).length=ie.size/\0<ie.size/\Qcn (Q6 z)=true then match Qeq ie.size xl x hp.heap with
     |some l=>Qo3 e ie.size ie.bytes xl l s hp
     |none=>none
    else none
   |_,_,_=>none
  |_,_=>none
 |_,_=>none
def Qli (P:Program) (ts:List TypeId) (args:List AVal) (hp:Hp):Option (AVal×Hp):=none
section
variable {P : Program} {g : Inj} {ng : Cx} {t : Tm} {ρ : Operand -> Value} {H : List Blk} {w : World}
theorem Qbd2 {x:AVal} {u:Value} {n:Nat} (h:lenV x=some n) (hx:VRel g x u):Builtin.lenOf u=pure n:=by
 unfold lenV at h;split at h<;>first|(cases h;cases hx;rfl)|cases h
theorem Qbd1 {x:AVal} {n:Nat} (h:lenV x=some n) (hx:x=.nilslice):n=0:=by
 subst hx;simp [lenV] at h;exact h.symm
structure After (P:Program) (g:Inj) (ng:Cx) (hp hp':Hp) (w w':World) (g':Inj):Prop where
 rel:HRel ng g' hp'.heap w'
 ext:Ext g hp.heap w g' hp'.heap w'
theorem Qbbi {hp hp':Hp} (hH:HRel ng g hp.heap w) {ts:Array TypeId} {ty:TypeId} {l:List AVal} {m:Array Value} {r:AVal} (h:Qpe P ng ts.toList l hp=some (r,hp')) (hl:LRel g l m.toList):
  ∃v w',(Builtin.copy_ ts ty m).run P w=.ok v w'/\VRel g r v/\After P g ng hp hp' w w' g:=by
 unfold Qpe at h;cases h
theorem Qsd (tt xt ty e:TypeId) (dx:TypeDesc) (i:TypeInfo) (ht:P.underlying tt=some (.slice e)) (hx:P.underlying xt=some dx) (hd:Qgi dx=true) (hi:P.info? e=some i)
  (a:Addr) (sLen sCap n:Nat) (x:Value) (news:List Value) (hlen:Builtin.lenOf x=pure n) (hnew:(Builtin.firstCells i.size n x).run P w=.ok news.toArray w) (hroom:sLen+n<=sCap):
  (Builtin.append_ #[tt,xt] ty #[.slice (some a) sLen sCap,x]).run P w=((storeCells (a.add (sLen*i.size)) news).run P w).andThen fun _ w'=> .ok (.slice (some a) (sLen+n) sCap) w':=by
 cases dx<;>first|(simp [Qgi] at hd;done)|simp [Builtin.append_,run_underlying ht,run_underlying hx,Qbg w hi,hlen,hroom,hnew]
theorem Qxl (tt xt ty e:TypeId) (dx:TypeDesc) (i:TypeInfo) (z:Value) (ht:P.underlying tt=some (.slice e)) (hx:P.underlying xt=some dx) (hd:Qgi dx=true) (hi:P.info? e=some i) (hz:i.zero=some z)
    (base:Option Addr) (sLen sCap n:Nat) (x:Value) (olds news:List Value) (hlen:Builtin.lenOf x=pure n) (hnew:(Builtin.firstCells i.size n x).run P w.drew=.ok news.toArray w.drew)
    (hold:(Builtin.firstCells i.size sLen (.slice base sLen sCap)).run P w.drew=.ok olds.toArray w.drew)
    (hg:sCap<sLen+n) (h63:sLen+n<=9223372036854775807) (hfit:Builtin.nextslicecap (sLen+n) sCap*i.bytes<=281474976710656):
    (Builtin.append_ #[tt,xt] ty #[.slice base sLen sCap,x]).run P w=
      .ok (.slice (some ⟨w.heap.size,0,none⟩) (sLen+n) (grownCap w (sLen+n) sCap e))
        (w.drew.alloc (.cells (olds.toArray++news.toArray++Builtin.zeroCells z.cells (grownCap w (sLen+n) sCap e-(sLen+n))) e)):=by
  have hn: ¬(sLen+n<=sCap):=by omega
  have h63': ¬(9223372036854775807<((sLen:Int)+(n:Int))):=by omega
  have h48': ¬(281474976710656<Builtin.nextslicecap (sLen+n) sCap*i.bytes):=by omega
  cases dx<;>first
    | (simp [Qgi] at hd;done)
    | (simp [Builtin.append_,run_underlying ht,run_underlying hx,sizeOf,typeInfo,zeroValue,hi,hz,hlen,hn,h63',h48',Question.forced,hnew,hold,newRow,grownCap]
       congr 2
       apply Array.ext';simp [List.append_assoc])
theorem Q95 {z:Array Value} {n:Nat} (h: ∀v,v∈z.toList->v.oneCell'=true): ∀v,v∈(Builtin.zeroCells z n).toList->v.oneCell'=true:=by
 intro v hv;simp only [Builtin.zeroCells,Array.toList_map,List.mem_map] at hv;obtain ⟨i,hi,rfl⟩:=hv;have hlt:i<n*z.size:=by simpa using hi
 have hz:0<z.size:=by
  rcases Nat.eq_zero_or_pos z.size with h0|h0;rw [h0] at hlt;simp at hlt;exact h0
 have hm:i%z.size<z.size:=Nat.mod_lt _ hz;rw [getElem!_pos z _ hm];exact h _ (by simp)
theorem Q1h {hp:Hp} (hH:HRel ng g hp.heap w) {e:TypeId} {z:Value} {size need sCap:Nat} {new:List AVal} {vs:List Value} (hr:LRel g new vs) (h1: ∀v∈vs,v.oneCell'=true)
  (hl:new.length=need*size) (hz:z.cells.size=size) (hz1: ∀v,v∈z.cells.toList->v.oneCell'=true) {H':List Blk} (hH':HRel ng g H' w) (hlen:H'.length=hp.heap.length):
  let C:=vs.toArray++Builtin.zeroCells z.cells (grownCap w need sCap e-need)
  C.size=grownCap w need sCap e*size/\
  HRel ng (upd g hp.heap.length ⟨w.heap.size,0,C.size⟩) (H'++[.cells new e]) (w.drew.alloc (.cells C e))/\
  Ext g H' w (upd g hp.heap.length ⟨w.heap.size,0,C.size⟩) (H'++[.cells new e]) (w.drew.alloc (.cells C e)):=by
 intro C;have hge:=grownCap_ge w need sCap e;have hvl:=hr.length;have hC:C.size=grownCap w need sCap e*size:=by
  simp only [C,Array.size_append,List.size_toArray,size_zeroCells,hz,<-hvl,hl,<-Nat.add_mul]
  congr 1;omega
 have hid:g hp.heap.length=none:=by
  cases hg:g hp.heap.length with
  |none=>rfl
  |some M=>have:=(hH.dom _ M hg).1;omega
 have hcr:CRel g new C 0:=by
  intro j a hj;obtain ⟨v,k1,k2⟩:=hr.get j a hj;refine ⟨v,?_,k2,h1 v (List.mem_of_getElem? k1)⟩;have hlt:j<vs.length:=(List.getElem?_eq_some_iff.1 k1).1;have:(0+j)=j:=by omega
  rw [this];simp only [C];rw [Array.getElem?_append_left (by simpa using hlt)];simpa using k1
 have hng:ng.n<=hp.heap.length:=by
  rcases Nat.lt_or_ge hp.heap.length ng.n with h9|h9;obtain ⟨L,hL,_⟩:=hH.glob _ h9;rw [hid] at hL;cases hL;exact h9
 have:=HRel.alloc hH' (w0:=w.drew) (H':=H'++[.cells new e]) hid hng (c:=new) (e:=e) (C:=C) (fr:=(0,0)) rfl rfl rfl rfl (by rw [<-hlen];simp) (by
   intro j hj;rw [<-hlen] at hj;rcases Nat.lt_or_ge j H'.length with h9|h9
   rw [List.getElem?_append_left h9];rw [List.getElem?_append_right h9,List.getElem?_eq_none h9];have:j-H'.length≠0:=by omega
   simp [this]) (by simp) (.inl (by omega)) (FrOk.zero (by
   intro v hv;simp only [C,Array.toList_append,List.mem_append] at hv;rcases hv with hv|hv
   exact h1 v hv;exact Q95 hz1 v hv)) (by
   rw [hC,hl];exact Nat.mul_le_mul_right _ hge) hcr
 exact ⟨hC,this.1,this.2 (by omega)⟩
theorem Qrb {H:List Blk} {b j:Nat} (h:Live (H.set b .gone) j):Live H j/\j≠b:=by
 obtain ⟨k,hk,hne⟩:=h;rw [List.getElem?_set] at hk;split at hk;split at hk;cases hk;exact absurd rfl hne;cases hk;rename_i hbj;exact ⟨⟨k,hk,hne⟩,fun e=>hbj e.symm⟩
theorem HRel.drop {b:Nat} (h:HRel ng g H w):HRel ng g (H.set b .gone) w:=by
 have hlive: ∀j,Live (H.set b .gone) j->Live H j:=by
  intro j ⟨k,hk,hne⟩;rw [List.getElem?_set] at hk;split at hk;split at hk;cases hk;exact absurd rfl hne;cases hk;exact ⟨k,hk,hne⟩
 refine ⟨fun i L hi=>by have:=h.dom i L hi;exact ⟨by simpa using this.1,this.2⟩,fun i j L M hi hj hb li lj=>h.inj i j L M hi hj hb (hlive i li) (hlive j lj),?_,h.glob,h.sig,h.frz.to rfl rfl (by simp) (Nat.le_refl _) fun b hb q2=>⟨rfl,fun j L hj lj=>q2 j L hj (hlive j lj)⟩⟩;intro i k hi hk;rw [List.getElem?_set] at hi;split at hi;split at hi;cases hi;exact absurd rfl hk;cases hi;exact h.blk0 i k hi hk
theorem Ext.drop {b:Nat}:Ext g H w g (H.set b .gone) w where
 sub:=Sub.refl g
 new:=fun i L h h'=>by rw [h] at h';cases h'
 newm:=fun i L h h'=>by rw [h] at h';cases h'
 len:=by simp
 live:=fun j _ ⟨k,hk,hne⟩=>by
  rw [List.getElem?_set] at hk;split at hk;split at hk;cases hk;exact absurd rfl hne;cases hk;exact ⟨k,hk,hne⟩
 size:=Nat.le_refl _
 frame:=fun _ _ _=>rfl
 os:=rfl
 tape:=rfl
 output:=rfl
theorem Q6t {need sCap size b n:Nat} (g:Inj) (id:Nat) (hge:need<=sCap) (hn:n=sCap*size):
  VRel (upd g id ⟨b,0,n⟩) (.slice id 0 need need (some size)) (.slice (some ⟨b,0,none⟩) need sCap):=by
 have:=VRel.slice (g:=upd g id ⟨b,0,n⟩) id 0 need need (some size) 0 sCap ⟨b,0,n⟩ (Q4 _ _ _) (.inl rfl) (by simp) (fun z hz=>by cases hz;exact ⟨hge,by simp [hn]⟩);simpa using this
theorem Qbal {hp hp':Hp} (hH:HRel ng g hp.heap w) {ts:Array TypeId} {ty:TypeId} {l:List AVal} {m:Array Value} {r:AVal} (h:Qli P ts.toList l hp=some (r,hp')) (hl:LRel g l m.toList):
  ∃v w' g',(Builtin.append_ ts ty m).run P w=.ok v w'/\VRel g' r v/\After P g ng hp hp' w w' g':=by
 unfold Qli at h;cases h
theorem Qbak {hp hp':Hp} (hH:HRel ng g hp.heap w) {tt xt ty e:TypeId} {dx:TypeDesc} {ie:TypeInfo} {z:AVal} {xl:Nat} {l:List AVal} {s r:AVal} {su xu:Value} {news:List Value}
  (ht:P.underlying tt=some (.slice e)) (hx:P.underlying xt=some dx) (hd:Qgi dx=true) (hi:P.info? e=some ie) (hz:Qfq P e=some z) (hzl:(Q6 z).length=ie.size) (_hpos:0<ie.size) (hsc:Qcn (Q6 z)=true)
  (hlen:Builtin.lenOf xu=pure xl) (hnew: ∀w',w'.heap=w.heap->(Builtin.firstCells ie.size xl xu).run P w'=.ok news.toArray w') (hnl:news.length=xl*ie.size) (hnr:LRel g l news) (h1n: ∀v∈news,v.oneCell'=true)
  (hll:l.length=xl*ie.size) (h:Qo3 e ie.size ie.bytes xl l s hp=some (r,hp')) (hs:VRel g s su):
  ∃v w' g',(Builtin.append_ #[tt,xt] ty #[su,xu]).run P w=.ok v w'/\VRel g' r v/\After P g ng hp hp' w w' g':=by
 obtain ⟨i',zv,hi',hzv,hzr⟩:=Qht hz;rw [hi] at hi';cases hi';have hzs:zv.cells.size=ie.size:=by have:=(hzr g).cells.length;simp at this;omega
 have hz1: ∀v,v∈zv.cells.toList->v.oneCell'=true:=Qds hsc (hzr g).cells;unfold Qo3 at h;split at h;cases hs;split at h
 ·rename_i h0
  subst h0;cases h;have hn0:news=[]:=List.eq_nil_of_length_eq_zero (by rw [hnl];simp);subst hn0;refine ⟨.slice none 0 0,w,g,?_,.nilslice,hH,Ext.refl _ _ _⟩;have:=hnew w rfl;cases dx<;>first|(simp [Qgi] at hd;done)|simp [Builtin.append_,run_underlying ht,run_underlying hx,Qbg w hi,hlen,this]
 rename_i h0;split at h;rename_i hc;cases h;have hrun:=Qxl (P:=P) (w:=w) tt xt ty e dx ie zv ht hx hd hi hzv none 0 0 xl xu [] news hlen (hnew w.drew rfl) (by simp [Builtin.firstCells]) (by omega) (by omega)
  (growslice_fits (by omega) (by simpa using hc.2))
 simp only [Nat.zero_add] at hrun;rw [show (#[]:Array Value)++news.toArray=news.toArray by simp] at hrun;have hg:=Q1h (hp:=hp) hH (e:=e) (z:=zv) (size:=ie.size) (need:=xl) (sCap:=0) hnr h1n hll hzs hz1 hH rfl;obtain ⟨g1,g2,g3⟩:=hg;exact ⟨_,_,_,hrun,Q6t g hp.heap.length (grownCap_ge w xl 0 e) g1,g2,g3⟩;cases h
 ·rename_i b off len cap ex
  cases hs with
  |slice _ _ _ _ _ o' cap' L hL h0 h1' h2'=>
   split at h;rename_i hroom;have hroom':len+xl<=cap':=by
    cases ex with
    |none=>rw [h1' rfl];exact hroom
    |some zz=>have:=(h2' zz rfl).1;omega
   have hrun:=Qsd (P:=P) (w:=w) tt xt ty e dx ie ht hx hd hi ⟨L.blk,L.dl+o',none⟩ len cap' xl xu news hlen (hnew w rfl) hroom';split at h;rename_i hx0;subst hx0;cases h;have hn0:news=[]:=List.eq_nil_of_length_eq_zero (by rw [hnl];simp);subst hn0;exact ⟨_,w,g,by rw [hrun];simp [storeCells],.slice _ _ _ _ _ _ _ L hL h0 h1' h2',hH,Ext.refl _ _ _⟩;rename_i hx0;split at h;rename_i c e' hb;split at h;rename_i hle;cases h;obtain ⟨M,hM,C,fr,h1,h2,h3,h4,h5⟩:=hH.blk b _ hb (by simp);rw [hL] at hM;cases hM;have ho:o'=off:=by rcases h0 with h0|h0;exact h0;omega
   subst ho;obtain ⟨w',j1,j2,j3⟩:=Qk1 (P:=P) L.blk (L.dl+(o'+len*ie.size)) e' fr news 0 C w h1 h3.1 (by omega) h1n;have hB:=BRel.sets (g:=g) (e:=e') h2 h3 h4 h5 hnr h1n hle j3;obtain ⟨r1,r2⟩:=hH.write hb hL j2 hB;refine ⟨.slice (some ⟨L.blk,L.dl+o',none⟩) (len+xl) cap',w',g,?_,?_,r1,r2⟩;rw [hrun,Qbs,show L.dl+o'+len*ie.size=L.dl+(o'+len*ie.size) by omega,j1];rfl;exact .slice _ _ _ _ _ _ _ L hL (.inl rfl) h1' h2';cases h;cases h;rename_i hroom;split at h;rename_i hc;split at h;rename_i old hold;obtain ⟨ovs,k1,k2,k3,k4,k5⟩:=Qod (P:=P) hH hold (.slice b off len cap ex o' cap' L hL h0 h1' h2') (by simp);have hall:LRel g (old++l) (ovs++news):=k3.append hnr;have hall1: ∀v∈ovs++news,v.oneCell'=true:=by
    intro v hv;rcases List.mem_append.1 hv with hv|hv
    exact k4 v hv;exact h1n v hv
   have halll:(old++l).length=(len+xl)*ie.size:=by rw [List.length_append,k5,hll,Nat.add_mul]
   have grow:cap'<len+xl-> ∀{H':List Blk} (hH':HRel ng g H' w) (hlen':H'.length=hp.heap.length) (hE:Ext g hp.heap w g H' w) (lg:List Nat),
     ∃v w' g',(Builtin.append_ #[tt,xt] ty #[.slice (some ⟨L.blk,L.dl+o',none⟩) len cap',xu]).run P w=.ok v w'/\VRel g' (.slice hp.heap.length 0 (len+xl) (len+xl) (some ie.size)) v/\
      After P g ng hp ⟨H'++[.cells (old++l) e],lg⟩ w w' g':=by
    intro hgr H' hH' hlen' hE lg;have hrun:=Qxl (P:=P) (w:=w) tt xt ty e dx ie zv ht hx hd hi hzv (some ⟨L.blk,L.dl+o',none⟩) len cap' xl xu ovs news hlen (hnew w.drew rfl) (k1 w.drew rfl) hgr (by omega)
     (growslice_fits hgr hc.2)
    obtain ⟨g1,g2,g3⟩:=Q1h (hp:=hp) hH (e:=e) (z:=zv) (size:=ie.size) (need:=len+xl) (sCap:=cap') hall hall1 halll hzs hz1 hH' hlen';have e1:ovs.toArray++news.toArray=(ovs++news).toArray:=by simp
    rw [e1] at hrun;exact ⟨_,_,_,hrun,Q6t g hp.heap.length (grownCap_ge w (len+xl) cap' e) g1,g2,hE.trans hH g3⟩
   split at h;cases h;exact grow (by have:=h1' rfl;omega) hH rfl (Ext.refl _ _ _) _;rename_i zz;split at h;rename_i c e' hb;split at h;rename_i hcc;obtain ⟨rfl,rfl,hlc⟩:=hcc;cases h;obtain ⟨hcap,hfit⟩:=h2' _ rfl;by_cases hgr:cap'<len+xl;exact grow hgr (HRel.drop hH) (by simp) Ext.drop _;have hroom':len+xl<=cap':=by omega
   have hrun:=Qsd (P:=P) (w:=w) tt xt ty e' dx ie ht hx hd hi ⟨L.blk,L.dl+o',none⟩ len cap' xl xu news hlen (hnew w rfl) hroom';obtain ⟨M,hM,C,fr,h1,h2,h3,h4,h5⟩:=hH.blk b _ hb (by simp);rw [hL] at hM;cases hM;have hmul:(len+xl)*ie.size<=cap'*ie.size:=Nat.mul_le_mul_right _ hroom';rw [Nat.add_mul] at hmul;obtain ⟨w',j1,j2,j3⟩:=Qk1 (P:=P) L.blk (L.dl+(o'+len*ie.size)) e' fr news 0 C w h1 h3.1 (by omega) h1n;have hbl:b<hp.heap.length:=(List.getElem?_eq_some_iff.1 hb).1;have hlb:Live hp.heap b:=⟨_,hb,by simp⟩;have hid:g hp.heap.length=none:=by
    cases hg:g hp.heap.length with
    |none=>rfl
    |some M=>have:=(hH.dom _ M hg).1;omega
   let L2:Loc:=⟨L.blk,L.dl+o',L.n-o'⟩
   have hsub:=Qe0 L2 hid;have hon:o'<=L.n:=by omega
   have hcr:CRel g (old++l) ((news.zipIdx 0).foldl (fun cs (x:Value×Nat)=>cs.setIfInBounds (L.dl+(o'+len*ie.size)+x.2) x.1) C) (L.dl+o'):=by
    have hold':CRel g (old++List.replicate l.length AVal.nilptr) C (L.dl+o')\/True:=.inr trivial;clear hold';intro j a hj;have hC0: ∀(j:Nat) (v:Value),ovs[j]? =some v->C[L.dl+o'+j]? =some v:=by
     intro j v hv;have hjl:j<ovs.length:=(List.getElem?_eq_some_iff.1 hv).1;by_cases hlz:len*ie.size=0;rw [k2,hlz] at hjl;omega;have:=k1 w rfl;have hoff:o'=off:=by
      rcases h0 with h0|h0;exact h0;exfalso;apply hlz;rw [h0.1];simp
     subst hoff;have hold2:=hold;simp only [Qeq] at hold2;by_cases hp':len=0\/0<len\/0<cap;rw [if_pos hp',if_neg hlz,hb] at hold2;simp only at hold2;obtain ⟨vs',q1,_,q3,_,q5⟩:=CRel.seg h5 hold2;have hq:=(run_loadCells_list (P:=P) w ⟨L.blk,L.dl+o',none⟩ vs' (fun j v hj=>by
      rw [Qbs,Qdw h1];rw [show L.dl+o'+j=L.dl+(o'+j) by omega];exact q5 j v hj))
     rw [q1] at hq;simp only [Builtin.firstCells] at this;rw [this] at hq;injection hq with hq _
     have hq':ovs=vs':=by simpa using hq
     subst hq';rw [show L.dl+o'+j=L.dl+(o'+j) by omega];exact q5 j v hv;rw [if_neg hp'] at hold2;cases hold2
    by_cases hjo:j<old.length;rw [List.getElem?_append_left hjo] at hj;obtain ⟨v,q1,q2⟩:=k3.get j a hj;refine ⟨v,?_,q2,k4 v (List.mem_of_getElem? q1)⟩;rw [Qp7 _ _ _ (by intro x hx;rw [k5] at hjo;omega)];exact hC0 j v q1;rw [List.getElem?_append_right (by omega)] at hj;obtain ⟨v,q1,q2⟩:=hnr.get _ a hj;refine ⟨v,?_,q2,h1n v (List.mem_of_getElem? q1)⟩;have:=Qp6 news 0 (L.dl+(o'+len*ie.size)) C (by omega) (j-old.length) v q1;rw [k5] at this hjo;rw [show L.dl+(o'+len*ie.size)+0+(j-len*ie.size)=L.dl+o'+j by omega] at this;exact this
   have hother: ∀k,k≠L.blk->w'.heap[k]? =w.heap[k]?:=j2.other;have hH2:=HRel.drop (b:=b) hH;refine ⟨.slice (some ⟨L.blk,L.dl+o',none⟩) (len+xl) cap',w',upd g hp.heap.length L2,?_,?_,?_,?_⟩;rw [hrun,Qbs,show L.dl+o'+len*ie.size=L.dl+(o'+len*ie.size) by omega,j1];rfl;have:=VRel.slice (g:=upd g hp.heap.length L2) hp.heap.length 0 (len+xl) (len+xl) (some ie.size) 0 cap' L2 (Q4 _ _ _) (.inl rfl) (by simp)
    (fun zz hz=>by cases hz;exact ⟨hroom',by simp only [L2];omega⟩)
   simpa [L2] using this;have hlive: ∀j,j≠hp.heap.length->Live (hp.heap.set b .gone++[.cells (old++l) e']) j->Live (hp.heap.set b .gone) j:=by
    intro j hj ⟨k,hk,hne⟩;rcases Nat.lt_or_ge j (hp.heap.set b .gone).length with h9|h9
    rw [List.getElem?_append_left h9] at hk;exact ⟨k,hk,hne⟩;rw [List.getElem?_append_right h9] at hk;have h8:=(List.getElem?_eq_some_iff.1 hk).1;simp at h8 h9;omega
   have hlive2: ∀j,Live (hp.heap.set b .gone) j->Live hp.heap j/\j≠b:=fun j h=>Qrb h;constructor;intro i M hM;by_cases hii:i=hp.heap.length;subst hii;rw [Q4] at hM;cases hM;exact ⟨by simp,by rw [j2.size];exact (hH.dom b L hL).2⟩;rw [Qy g _ hii] at hM;have:=hH.dom i M hM;exact ⟨by simp;omega,by rw [j2.size];exact this.2⟩;intro i j M N hi' hj' hbk li lj;by_cases hii:i=hp.heap.length;by_cases hjj:j=hp.heap.length;rw [hii,hjj];subst hii;rw [Q4] at hi';cases hi';rw [Qy g _ hjj] at hj';obtain ⟨q1,q2⟩:=hlive2 j (hlive j hjj lj);exact absurd (hH.inj j b N L hj' hL hbk.symm q1 hlb) q2;by_cases hjj:j=hp.heap.length;subst hjj;rw [Q4] at hj';cases hj';rw [Qy g _ hii] at hi';obtain ⟨q1,q2⟩:=hlive2 i (hlive i hii li);exact absurd (hH.inj i b M L hi' hL hbk q1 hlb) q2;rw [Qy g _ hii] at hi';rw [Qy g _ hjj] at hj';exact hH.inj i j M N hi' hj' hbk (hlive2 i (hlive i hii li)).1 (hlive2 j (hlive j hjj lj)).1;intro i k hik hk;by_cases hii:i=hp.heap.length;subst hii;have hgl:(hp.heap.set b .gone).length=hp.heap.length:=by simp
   rw [<-hgl] at hik;simp only [List.getElem?_concat_length,Option.some.injEq] at hik;subst hik;refine .inr ⟨L2,Q4 _ _ _,_,fr,j3,by rw [Qdz];simp only [L2];omega,⟨by rw [Qdz];exact h3.not,by rw [Qdz];exact h3.eq,Ql6 news 0 _ C h1n h3.one⟩,by rw [halll,Nat.add_mul];simp only [L2];omega,?_⟩;intro j a hj;obtain ⟨v,q1,q2,q3⟩:=hcr j a hj;exact ⟨v,q1,q2.mono hsub,q3⟩;have hlv:=hlive i hii ⟨k,hik,hk⟩;have hil:i<(hp.heap.set b .gone).length:=by obtain ⟨k',hk',_⟩:=hlv;exact (List.getElem?_eq_some_iff.1 hk').1
   rw [List.getElem?_append_left hil] at hik;rcases hH2.blk0 i k hik hk with hz|⟨M,hM,hB⟩
   exact .inl (hz.mono rfl);refine .inr ⟨M,by rw [Qy g _ hii];exact hM,(hB.of_same (hother _ ?_)).mono hsub⟩;intro he;obtain ⟨q1,q2⟩:=hlive2 i hlv;exact q2 (hH.inj i b M L hM hL he q1 hlb);intro i hi';obtain ⟨M,hM,q1,q2⟩:=hH.glob i hi';exact ⟨M,hsub _ _ hM,q1,q2⟩;exact hH.sig;refine hH.frz.to rfl rfl (by simp) (by rw [j2.size];exact Nat.le_refl _) fun b' hb' q2=>⟨hother _ fun he=>q2 b L hL hlb he.symm,fun j M hj lj he=> ?_⟩;by_cases hjj:j=hp.heap.length;subst hjj;rw [Q4] at hj;cases hj;exact q2 b L hL hlb he;rw [Qy g _ hjj] at hj;exact q2 j M hj (hlive2 j (hlive j hjj lj)).1 he;constructor;exact hsub;intro i M hi' hn;by_cases hii:i=hp.heap.length;subst hii;rw [Q4] at hi';cases hi';exact ⟨Nat.le_refl _,.inr ⟨b,L,hL,rfl,hlb⟩⟩;rw [Qy g _ hii,hn] at hi';cases hi';intro i X hi' hn;rw [show (upd g _ _).mp=g.mp from rfl,hn] at hi';cases hi';simp;intro i hi' ⟨k,hk,hne⟩;rw [List.getElem?_append_left (by simpa using hi')] at hk;exact (Qrb ⟨k,hk,hne⟩).1;rw [j2.size];exact Nat.le_refl _;intro k hk hno;exact hother k fun he=>hno b L hL hlb he.symm;exact j2.os;exact j2.tape;exact j2.output;cases h;cases h;cases h;cases h
 cases h
end
end Go.Ev
namespace Go.Ev
set_option linter.unusedVariables false
set_option linter.unusedSimpArgs false
theorem Qzc: ∀(cl:List (Option IntKind)) (j:Nat) (A B:List UInt8),rsz cl<=A.length->Qc1 cl j (A++B)=Qc1 cl j A
 |[],j,A,B,h=>rfl
 |c::cl,0,A,B,h=>by
  simp only [rsz] at h;simp only [Qc1];rw [List.take_append_of_le_length (by omega)]
 |c::cl,j+1,A,B,h=>by
  simp only [rsz] at h;simp only [Qc1];rw [List.drop_append_of_le_length (by omega)];exact Qzc cl j _ B (by simp;omega)
theorem Qhm {cl:List (Option IntKind)} {S T:ByteArray} {N:Nat} (h:S.data.toList.length=N*rsz cl) (m j:Nat):
  Qm cl (S++T) m j=if m<N then Qm cl S m j else Qm cl T (m-N) j:=by
 have e:(S++T).data.toList=S.data.toList++T.data.toList:=by simp [ByteArray.data_append]
 unfold Qm;rw [e];split;rename_i hm;have h1:(m+1)*rsz cl<=N*rsz cl:=Nat.mul_le_mul_right _ hm;rw [Nat.add_mul,Nat.one_mul] at h1;rw [List.drop_append_of_le_length (by omega)];exact Qzc cl j _ _ (by rw [List.length_drop];omega);rename_i hm;have h1:N*rsz cl<=m*rsz cl:=Nat.mul_le_mul_right _ (by omega);rw [List.drop_append,List.drop_eq_nil_of_le (by omega),List.nil_append,h,<-Nat.sub_mul]
structure RowsV (g:Inj) (cl:List (Option IntKind)) (S:ByteArray) (N:Nat) (vs:List Value):Prop where
 size:S.data.toList.length=N*rsz cl
 len:vs.length=N*cl.length
 cell: ∀m j,m<N->j<cl.length-> ∃v,vs[m*cl.length+j]? =some v/\VRel g (Qm cl S m j) v/\v.oneCell'=true
theorem RowsV.nil {g:Inj} {cl:List (Option IntKind)}:RowsV g cl .empty 0 []:=⟨by simp,by simp,fun m j h=>by omega⟩
theorem RowsV.append {g:Inj} {cl:List (Option IntKind)} {S T:ByteArray} {N K:Nat} {vs us:List Value} (h:RowsV g cl S N vs) (h':RowsV g cl T K us):RowsV g cl (S++T) (N+K) (vs++us):=by
 refine ⟨?_,by rw [List.length_append,h.len,h'.len,Nat.add_mul],fun m j hm hj=> ?_⟩;have e:(S++T).data.toList=S.data.toList++T.data.toList:=by simp [ByteArray.data_append]
 rw [e,List.length_append,h.size,h'.size,Nat.add_mul];rw [Qhm h.size];by_cases hlt:m<N;rw [if_pos hlt];obtain ⟨v,a,b,c⟩:=h.cell m j hlt hj;refine ⟨v,?_,b,c⟩;have:=(List.getElem?_eq_some_iff.1 a).1;rw [List.getElem?_append_left this];exact a;rw [if_neg hlt];obtain ⟨v,a,b,c⟩:=h'.cell (m-N) j (by omega) hj;refine ⟨v,?_,b,c⟩;have h1:N*cl.length<=m*cl.length:=Nat.mul_le_mul_right _ (by omega);rw [List.getElem?_append_right (by rw [h.len];omega),h.len];rw [show m*cl.length+j-N*cl.length=(m-N)*cl.length+j by rw [Nat.sub_mul];omega];exact a
theorem RowsV.one {g:Inj} {cl:List (Option IntKind)} {S:ByteArray} {N:Nat} {vs:List Value} (h:RowsV g cl S N vs): ∀v∈vs,v.oneCell'=true:=by
 intro v hv;obtain ⟨i,hi⟩:=List.mem_iff_getElem?.1 hv;have hlt:=(List.getElem?_eq_some_iff.1 hi).1;rw [h.len] at hlt;have hz:0<cl.length:=by
  rcases Nat.eq_zero_or_pos cl.length with h0|h0;rw [h0] at hlt;omega;exact h0
 obtain ⟨u,a,_,c⟩:=h.cell (i/cl.length) (i%cl.length) (Nat.div_lt_of_lt_mul (by rw [Nat.mul_comm];exact hlt)) (Nat.mod_lt _ hz);rw [show i/cl.length*cl.length+i%cl.length=i by rw [Nat.mul_comm];exact Nat.div_add_mod i cl.length,hi] at a;cases a;exact c
section
variable {P : Program} {g : Inj} {ng : Cx} {t : Tm} {ρ : Operand -> Value} {H : List Blk} {w w' : World}
theorem Qp8 (hH:HRel ng g H w):g H.length=none:=by
 cases hg:g H.length with
 |none=>rfl
 |some M=>have:=(hH.dom _ M hg).1;omega
theorem HRel.retip (hH:HRel ng g H w) {b:Nat} {L L2:Loc} {k':Blk} (hlb:Live H b) (hL:g b=some L) (hblk:L2.blk=L.blk) (hw:Wr L.blk w w') (hB:BRel (upd g H.length L2) w' k' L2):
  HRel ng (upd g H.length L2) (H.set b .gone++[k']) w'/\Ext g H w (upd g H.length L2) (H.set b .gone++[k']) w':=by
 have hid:=Qp8 hH;have hsub:=Qe0 L2 hid;have hbl:b<H.length:=(hH.dom b L hL).1;have hother: ∀k,k≠L.blk->w'.heap[k]? =w.heap[k]?:=hw.other;have hH2:=HRel.drop (b:=b) hH;have hlive: ∀j,j≠H.length->Live (H.set b .gone++[k']) j->Live (H.set b .gone) j:=by
  intro j hj ⟨k,hk,hne⟩;rcases Nat.lt_or_ge j (H.set b .gone).length with h9|h9
  rw [List.getElem?_append_left h9] at hk;exact ⟨k,hk,hne⟩;rw [List.getElem?_append_right h9] at hk;have h8:=(List.getElem?_eq_some_iff.1 hk).1;simp at h8 h9;omega
 have hlive2: ∀j,Live (H.set b .gone) j->Live H j/\j≠b:=fun j h=>Qrb h;constructor;constructor;intro i M hM;by_cases hii:i=H.length;subst hii;rw [Q4] at hM;cases hM;exact ⟨by simp,by rw [hw.size,hblk];exact (hH.dom b L hL).2⟩;rw [Qy g _ hii] at hM;have:=hH.dom i M hM;exact ⟨by simp;omega,by rw [hw.size];exact this.2⟩;intro i j M N hi' hj' hbk li lj;by_cases hii:i=H.length;by_cases hjj:j=H.length;rw [hii,hjj];subst hii;rw [Q4] at hi';cases hi';rw [Qy g _ hjj] at hj';obtain ⟨q1,q2⟩:=hlive2 j (hlive j hjj lj);exact absurd (hH.inj j b N L hj' hL (by rw [<-hbk,hblk]) q1 hlb) q2;by_cases hjj:j=H.length;subst hjj;rw [Q4] at hj';cases hj';rw [Qy g _ hii] at hi';obtain ⟨q1,q2⟩:=hlive2 i (hlive i hii li);exact absurd (hH.inj i b M L hi' hL (by rw [hbk,hblk]) q1 hlb) q2;rw [Qy g _ hii] at hi';rw [Qy g _ hjj] at hj';exact hH.inj i j M N hi' hj' hbk (hlive2 i (hlive i hii li)).1 (hlive2 j (hlive j hjj lj)).1;intro i k hik hk;by_cases hii:i=H.length;subst hii;have hgl:(H.set b .gone).length=H.length:=by simp
 rw [<-hgl] at hik;simp only [List.getElem?_concat_length,Option.some.injEq] at hik;subst hik;exact .inr ⟨L2,Q4 _ _ _,hB⟩;have hlv:=hlive i hii ⟨k,hik,hk⟩;have hil:i<(H.set b .gone).length:=by obtain ⟨k',hk',_⟩:=hlv;exact (List.getElem?_eq_some_iff.1 hk').1
 rw [List.getElem?_append_left hil] at hik;rcases hH2.blk0 i k hik hk with hz|⟨M,hM,hB⟩
 exact .inl (hz.mono rfl);refine .inr ⟨M,by rw [Qy g _ hii];exact hM,(hB.of_same (hother _ ?_)).mono hsub⟩;intro he;obtain ⟨q1,q2⟩:=hlive2 i hlv;exact q2 (hH.inj i b M L hM hL he q1 hlb);intro i hi';obtain ⟨M,hM,q1,q2⟩:=hH.glob i hi';exact ⟨M,hsub _ _ hM,q1,q2⟩;exact hH.sig;refine hH.frz.to rfl rfl (by simp) (by rw [hw.size];exact Nat.le_refl _) fun b' hb' q2=>⟨hother _ fun he=>q2 b L hL hlb he.symm,fun j M hj lj he=> ?_⟩;by_cases hjj:j=H.length;subst hjj;rw [Q4] at hj;cases hj;exact q2 b L hL hlb (by rw [<-he,hblk]);rw [Qy g _ hjj] at hj;exact q2 j M hj (hlive2 j (hlive j hjj lj)).1 he;constructor;exact hsub;intro i M hi' hn;by_cases hii:i=H.length;subst hii;rw [Q4] at hi';cases hi';exact ⟨Nat.le_refl _,.inr ⟨b,L,hL,hblk.symm,hlb⟩⟩;rw [Qy g _ hii,hn] at hi';cases hi';intro i X hi' hn;rw [show (upd g _ _).mp=g.mp from rfl,hn] at hi';cases hi';simp;intro i hi' ⟨k,hk,hne⟩;rw [List.getElem?_append_left (by simpa using hi')] at hk;exact (Qrb ⟨k,hk,hne⟩).1;rw [hw.size];exact Nat.le_refl _;intro k hk hno;exact hother k fun he=>hno b L hL hlb he.symm;exact hw.os;exact hw.tape;exact hw.output
theorem HRel.newLst {H':List Blk} (hH:HRel ng g H w) (hH':HRel ng g H' w) (hlen:H'.length=H.length) {c n:AVal} {cl:List (Option IntKind)} {e:TypeId} {C:Array Value} {S:ByteArray} {N:Nat} {vs:List Value} (hc:den g.sig c=.str S) (hn:den g.sig n=.int .i64 (N:Int))
  (hr:RowsV g cl S N vs) (hC: ∀(i:Nat) (v:Value),vs[i]? =some v->C[i]? =some v) (h1: ∀v,v∈C.toList->v.oneCell'=true):
  HRel ng (upd g H.length ⟨w.heap.size,0,C.size⟩) (H'++[.lst c n cl e]) (w.drew.alloc (.cells C e))/\
  Ext g H' w (upd g H.length ⟨w.heap.size,0,C.size⟩) (H'++[.lst c n cl e]) (w.drew.alloc (.cells C e)):=by
 have hid:=Qp8 hH;have hng:ng.n<=H.length:=by
  rcases Nat.lt_or_ge H.length ng.n with h9|h9;obtain ⟨L,hL,_⟩:=hH.glob _ h9;rw [hid] at hL;cases hL;exact h9
 have:=HRel.allocK hH' (w0:=w.drew) (H':=H'++[.lst c n cl e]) hid hng (k:=.lst c n cl e) (O:=.cells C e (0,0)) (n:=C.size) rfl rfl rfl rfl (by rw [<-hlen];simp) (by
   intro j hj;rw [<-hlen] at hj;rcases Nat.lt_or_ge j H'.length with h9|h9
   rw [List.getElem?_append_left h9];rw [List.getElem?_append_right h9,List.getElem?_eq_none h9];have:j-H'.length≠0:=by omega
   simp [this]) (by simp) (.inl (by omega)) (fun hnew=> ?_)
 exact ⟨this.1,this.2 (by omega)⟩;refine ⟨S,N,C,(0,0),e,hc,hn,hr.size,hnew,by simp,⟨fun _=>⟨rfl,⟨FrOk.zero h1,.inr rfl⟩,fun i X hi hX he=>Nat.lt_irrefl _ (he▸hH.frz.top i X hi hX)⟩,fun i X hi hX he=>absurd (he▸hH.frz.top i X hi hX) (Nat.lt_irrefl _)⟩,?_,fun m j hm hj=> ?_⟩;show N*cl.length<=C.size;rcases Nat.eq_zero_or_pos vs.length with h0|h0
 rw [<-hr.len,h0];exact Nat.zero_le _;have hlast:vs[vs.length-1]? =some vs[vs.length-1]:=by simp
 have:=(Array.getElem?_eq_some_iff.1 (hC _ _ hlast)).1;rw [<-hr.len];omega;obtain ⟨v,a,b,c⟩:=hr.cell m j hm hj;refine ⟨v,?_,b.mono (Qe0 _ hid),c⟩;rw [show (0:Nat)+m*cl.length+j=m*cl.length+j by omega];exact hC _ _ a
end
end Go.Ev
namespace Go.Ev
set_option linter.unusedVariables false
set_option linter.unusedSimpArgs false
def Qrd (e:Nat):List (Nat×List (Option IntKind))->Option (List (Option IntKind))
 |[]=>none
 |p::l=>match Nat.beq p.1 e with
  |true=>some p.2
  |false=>Qrd e l
def okC (ng:Cx) (c:Option IntKind) (a:AVal):Bool:=
 match c with
 |some k=>match a with
  |.int k' n=>decide (k=k')&&(k.wrap n==n)
  |.symi k' i=>decide (k=k')&&(match ng.kd i with
   |some k''=>decide (k=k'')
   |none=>false)
  |_=>false
 |none=>match a with
  |.bool _=>true
  |.symb _=>true
  |_=>false
def okCs (ng:Cx):List (Option IntKind)->List AVal->Bool
 |[],[]=>true
 |c::cl,a::l=>okC ng c a&&okCs ng cl l
 |_,_=>false
def repC (cl:List (Option IntKind)):Nat->List (Option IntKind)
 |0=>[]
 |n+1=>cl++repC cl n
def Qjq (cl:List (Option IntKind)):Bool:=
 match cl with
 |[some .u8]=>true
 |_=>false
def srcL (ng:Cx) (cl:List (Option IntKind)) (x:AVal) (H:List Blk):Option (AVal×AVal):=
 match x with
 |.nilslice=>some (.str .empty,.int .i64 0)
 |.lsl b z _ off n=>match isZ n with
  |true=>some (.str .empty,.int .i64 0)
  |false=>match H[b]? with
   |some (.lst s nb cl' _)=>match decide (cl'=cl)&&(Nat.beq z cl.length&&(isZ off&&Qgn n nb)) with
    |true=>some (s,n)
    |false=>none
   |_=>none
 |.slice b off len cap ex=>match Qeq cl.length len (.slice b off len cap ex) H with
  |some l=>match okCs ng (repC cl len) l with
   |true=>match symS ng (.sop (.row (repC cl len)) l) with
    |some s=>some (s,.int .i64 len)
    |none=>none
   |false=>none
  |none=>none
 |.str s=>match Qjq cl with
  |true=>some (.str s,.int .i64 s.size)
  |false=>none
 |.syms i=>match Qjq cl with
  |true=>match lenS ng i with
   |some n=>some (.syms i,Qch ng n)
   |none=>none
  |false=>none
 |_=>none
def Qpl:AVal->Bool
 |.str s=>Nat.beq s.size 0
 |_=>false
def catL (ng:Cx) (a b:AVal):Option AVal:=
 match Qpl a with
 |true=>some b
 |false=>match Qpl b with
  |true=>some a
  |false=>symS ng (.sop .cat [a,b])
def addL (ng:Cx) (K:Nat) (a b:AVal):Option AVal:=
 match (match isZ a with
  |true=>some b
  |false=>match isZ b with
   |true=>some a
   |false=>match Qci a,Qci b with
    |some x,some y=>some (.int .i64 (x+y))
    |_,_=>match kdI ng a&&(kdI ng b||leqT ng b (.int .i64 9223372036854775807)) with
     |true=>symS ng (.bin .add a b)
     |false=>none) with
 |some r=>match leqT ng (.int .i64 0) r&&leqT ng r (.int .i64 K) with
  |true=>some r
  |false=>none
 |none=>none
def dstL (ng:Cx) (cl:List (Option IntKind)) (e:TypeId) (s:AVal) (H:List Blk):Option (AVal×AVal×Option Nat):=
 match s with
 |.nilslice=>some (.str .empty,.int .i64 0,none)
 |.crow i=>match ng.rstr i,ng.rlen i with
  |some (c,cl'),some n=>match decide (cl'=cl) with
   |true=>some (c,Qch ng n,none)
   |false=>none
  |_,_=>none
 |.lsl b z ap off n=>match isZ n with
  |true=>match ap with
   |true=>some (.str .empty,.int .i64 0,none)
   |false=>none
  |false=>match H[b]? with
   |some (.lst c nb cl' e')=>match ap&&(decide (cl'=cl)&&((Nat.beq e' e&&Nat.blt 0 e)&&(Nat.beq z cl.length&&(isZ off&&Qgn n nb)))) with
    |true=>some (c,n,some b)
    |false=>none
   |_=>none
 |.slice b off len cap ex=>match ex with
  |none=>match Nat.beq len 0&&Nat.beq cap 0 with
   |true=>some (.str .empty,.int .i64 0,none)
   |false=>match Nat.beq len cap&&Nat.blt 0 len with
    |true=>match srcL ng cl (.slice b off len cap none) H with
     |some (sc,sn)=>some (sc,sn,none)
     |none=>none
    |false=>none
  |some _=>none
 |_=>none
def goneO (H:List Blk):Option Nat->List Blk
 |some b=>H.set b .gone
 |none=>H
def logO (l:List Nat):Option Nat->List Nat
 |some b=>b::l
 |none=>l
def posI:AVal->Bool
 |.int .i64 n=>decide (0<n)
 |_=>false
def Qqi:AVal->Bool
 |.crow _=>true
 |.slice _ _ len cap none=>Nat.beq len cap&&Nat.blt 0 len
 |_=>false
def Qlh (P:Program) (ng:Cx) (ts:List TypeId) (args:List AVal) (hp:Hp):Option (AVal×Hp):=
 match ts,args with
 |[t,xt],[s,x]=>match P.underlying t,P.underlying xt with
  |some (.slice e),some dx=>match P.info? e,Qfq P e,Qrd e ng.lsts with
   |some ie,some z,some cl=>
    if Qgi dx=true/\(Q6 z).length=ie.size/\0<ie.size/\Qcn (Q6 z)=true/\cl.length=ie.size/\0<ie.bytes then
     match dstL ng cl e s hp.heap,srcL ng cl x hp.heap with
     |some (dc,dn,old),some (sc,sn)=>match catL ng dc sc,(match !(Qqi s)||posI sn with
      |true=>addL ng (140737488355328/ie.bytes) dn sn
      |false=>none) with
      |some c,some n=>some (.lsl hp.heap.length ie.size true (.int .i64 0) n,⟨goneO hp.heap old++[.lst c n cl e],logO hp.log old⟩)
      |_,_=>none
     |_,_=>none
    else none
   |_,_,_=>none
  |_,_=>none
 |_,_=>none
theorem Qo5: ∀(m n:Nat),(beB m n).length=m
 |0,n=>rfl
 |m+1,n=>by simp [beB,Qo5 m]
theorem Qbbo (l:List UInt8) (b:UInt8):deB (l++[b])=deB l*256+b.toNat:=by simp [deB]
theorem Qzr: ∀(m n:Nat),n<256^m->deB (beB m n)=n
 |0,n,h=>by
  simp at h;subst h;rfl
 |m+1,n,h=>by
  rw [beB,Qbbo,Qzr m (n/256) (by
   rw [Nat.pow_succ] at h;exact Nat.div_lt_of_lt_mul (by rw [Nat.mul_comm];exact h))]
  simp;omega
theorem Qbo3 (k:IntKind) (n:Int):k.wrap (n%(2^(8*csz (some k)):Nat))=k.wrap n:=by
 cases k<;>simp [IntKind.wrap,IntKind.bits,IntKind.signed,csz]<;>(try omega)<;>(split<;>split<;>omega)
theorem Q0b {ng:Cx} {V:Sig} {c:Option IntKind} {a:AVal} (h:okC ng c a=true):(encK c (den V a)).length=csz c:=by
 unfold okC at h;split at h;split at h;simp [den,encK,Qo5];simp [den,encK,Qo5];cases h;split at h;rfl;rfl;cases h
theorem Qbki {ng:Cx} {V:Sig} (hg:ng.Good V) {c:Option IntKind} {a:AVal} (h:okC ng c a=true):(∃k n,c=some k/\den V a=.int k n/\k.wrap n=n)\/(c=none/\ ∃b,den V a=.bool b):=by
 unfold okC at h;split at h;rename_i k;split at h;simp only [Bool.and_eq_true,decide_eq_true_eq,beq_iff_eq] at h;obtain ⟨rfl,h⟩:=h;exact .inl ⟨_,_,rfl,rfl,h⟩;rename_i k' i;simp only [Bool.and_eq_true,decide_eq_true_eq] at h;obtain ⟨rfl,h⟩:=h;split at h;rename_i k'' hk;simp only [decide_eq_true_eq] at h;subst h;exact .inl ⟨_,_,rfl,rfl,hg.kd i _ hk⟩;cases h;cases h;split at h;exact .inr ⟨rfl,_,rfl⟩;exact .inr ⟨rfl,_,rfl⟩;cases h
theorem Qbbp {ng:Cx} {V:Sig} (hg:ng.Good V) {c:Option IntKind} {a:AVal} (h:okC ng c a=true):decK c (encK c (den V a))=den V a:=by
 rcases Qbki hg h with ⟨k,n,rfl,hd,hw⟩|⟨rfl,b,hd⟩;rw [hd];simp only [encK,decK]
 congr 1
 have h0:(0:Int)<=n%(2^(8*csz (some k)):Nat):=Int.emod_nonneg _ (by have:=Nat.two_pow_pos (8*csz (some k));omega);have h1:n%(2^(8*csz (some k)):Nat)<(2^(8*csz (some k)):Nat):=Int.emod_lt_of_pos _ (by have:=Nat.two_pow_pos (8*csz (some k));omega);rw [Qzr _ _ (by
  have h2:(256:Nat)^csz (some k)=2^(8*csz (some k)):=by rw [Nat.pow_mul]
  rw [h2];omega)]
 rw [Int.toNat_of_nonneg h0,Qbo3,hw];rw [hd];cases b<;>rfl
theorem Qkt {ng:Cx} {V:Sig}: ∀{cl:List (Option IntKind)} {l:List AVal},okCs ng cl l=true->(rowB cl (l.map (den V))).length=rsz cl
 |[],[],_=>rfl
 |[],_::_,h=>by simp [okCs] at h
 |_::_,[],h=>by simp [okCs] at h
 |c::cl,a::l,h=>by
  simp only [okCs,Bool.and_eq_true] at h;simp only [List.map_cons,rowB,List.length_append,rsz];rw [Q0b h.1,Qkt h.2]
theorem Qi7 {ng:Cx} {V:Sig} (hg:ng.Good V): ∀{cl:List (Option IntKind)} {l:List AVal} (B:List UInt8),okCs ng cl l=true-> ∀(j:Nat) (a:AVal),l[j]? =some a->Qc1 cl j (rowB cl (l.map (den V))++B)=den V a
 |[],[],_,_,j,a,h=>by simp at h
 |[],_::_,_,h,_,_,_=>by simp [okCs] at h
 |_::_,[],_,h,_,_,_=>by simp [okCs] at h
 |c::cl,b::l,B,h,j,a,hj=>by
  simp only [okCs,Bool.and_eq_true] at h;have hlen:=Q0b (V:=V) h.1;simp only [List.map_cons,rowB,List.append_assoc];cases j with
  |zero=>
   simp at hj;subst hj;simp only [Qc1];rw [<-hlen,List.take_left];exact Qbbp hg h.1
  |succ j=>
   simp only [Qc1];rw [<-hlen,List.drop_left];exact Qi7 hg B h.2 j a (by simpa using hj)
theorem Qkj {ng:Cx}: ∀{cl:List (Option IntKind)} {l:List AVal},okCs ng cl l=true->cl.length=l.length
 |[],[],_=>rfl
 |[],_::_,h=>by simp [okCs] at h
 |_::_,[],h=>by simp [okCs] at h
 |c::cl,a::l,h=>by
  simp only [okCs,Bool.and_eq_true] at h;simp [Qkj h.2]
theorem Q66 {ng:Cx}: ∀{cl cl':List (Option IntKind)} {l:List AVal},okCs ng (cl++cl') l=true->okCs ng cl (l.take cl.length)=true/\okCs ng cl' (l.drop cl.length)=true
 |[],cl',l,h=>by simpa [okCs] using h
 |c::cl,cl',[],h=>by simp [okCs] at h
 |c::cl,cl',a::l,h=>by
  simp only [List.cons_append,okCs,Bool.and_eq_true] at h;obtain ⟨h1,h2⟩:=Q66 h.2;simp only [List.length_cons,List.take_succ_cons,List.drop_succ_cons,okCs,Bool.and_eq_true];exact ⟨⟨h.1,h1⟩,h2⟩
theorem Q8c {ng:Cx} {V:Sig}: ∀{cl cl':List (Option IntKind)} {l m:List AVal},okCs ng cl l=true->rowB (cl++cl') ((l++m).map (den V))=rowB cl (l.map (den V))++rowB cl' (m.map (den V))
 |[],cl',[],m,_=>by simp [rowB]
 |[],_,_::_,_,h=>by simp [okCs] at h
 |_::_,_,[],_,h=>by simp [okCs] at h
 |c::cl,cl',a::l,m,h=>by
  simp only [okCs,Bool.and_eq_true] at h;simp only [List.cons_append,List.map_cons,rowB,List.append_assoc];rw [Q8c h.2]
theorem Q8h {ng:Cx} {g:Inj} (hg:ng.Good g.sig) {cl:List (Option IntKind)}: ∀{n:Nat} {l:List AVal} {vs:List Value},okCs ng (repC cl n) l=true->LRel g l vs->(∀v∈vs,v.oneCell'=true)->RowsV g cl ⟨(rowB (repC cl n) (l.map (den g.sig))).toArray⟩ n vs
 |0,l,vs,h,hr,h1=>by
  have hl:=Qkj h;have hv:=hr.length;simp only [repC,List.length_nil] at hl;have hl0:l=[]:=List.eq_nil_of_length_eq_zero hl.symm;subst hl0;have hv0:vs=[]:=List.eq_nil_of_length_eq_zero (by simpa using hv.symm);subst hv0;exact ⟨by simp [repC,rowB],by simp,fun m j hm=>by omega⟩
 |n+1,l,vs,h,hr,h1=>by
  have hl:=Qkj h;have hv:=hr.length;simp only [repC] at h hl;obtain ⟨k1,k2⟩:=Q66 h;have hll:l.take cl.length++l.drop cl.length=l:=List.take_append_drop _ _;have e:rowB (repC cl (n+1)) (l.map (den g.sig))=rowB cl ((l.take cl.length).map (den g.sig))++rowB (repC cl n) ((l.drop cl.length).map (den g.sig)):=by
   rw [<-Q8c k1,hll];rfl
  have hA:RowsV g cl ⟨(rowB cl ((l.take cl.length).map (den g.sig))).toArray⟩ 1 (vs.take cl.length):=by
   have hlen1:=Qkj k1;refine ⟨by show (rowB cl ((l.take cl.length).map (den g.sig))).length=_;rw [Qkt k1,Nat.one_mul],by rw [List.length_take];simp at hl;omega,fun m j hm hj=> ?_⟩;have hm0:m=0:=by omega
   subst hm0;have hjl:j<l.length:=by simp at hl;omega
   obtain ⟨v,v1,v2⟩:=hr.get j _ (List.getElem?_eq_getElem hjl);refine ⟨v,by rw [Nat.zero_mul,Nat.zero_add,List.getElem?_take,if_pos hj];exact v1,?_,h1 v (List.mem_of_getElem? v1)⟩;have hc:=Qi7 hg [] k1 j l[j] (by rw [List.getElem?_take,if_pos hj];exact List.getElem?_eq_getElem hjl);rw [List.append_nil] at hc;simp only [Qm,Nat.zero_mul,List.drop_zero];rw [hc];exact Qn.2 v2
  have hB:=Q8h hg (n:=n) (l:=l.drop cl.length) (vs:=vs.drop cl.length) k2 (hr.drop _) (fun v hv=>h1 v (List.mem_of_mem_drop hv));have:=hA.append hB;rw [List.take_append_drop,Nat.add_comm] at this;have e2:(⟨(rowB (repC cl (n+1)) (l.map (den g.sig))).toArray⟩:ByteArray)=⟨(rowB cl ((l.take cl.length).map (den g.sig))).toArray⟩++⟨(rowB (repC cl n) ((l.drop cl.length).map (den g.sig))).toArray⟩:=by
   rw [e];apply ByteArray.ext;simp [ByteArray.data_append]
  rw [e2];exact this
theorem Qxk {g:Inj} (s:ByteArray):RowsV g [some .u8] s s.size (s.toList.map fun b=>Value.int .u8 b.toNat):=by
 have ht:s.toList=s.data.toList:=by rw [ByteArray.toList_eq]
 refine ⟨by simp [rsz,csz],by rw [ht];simp,fun m j hm hj=> ?_⟩;have hj0:j=0:=by simpa using hj
 subst hj0;have hlt:m<s.data.toList.length:=by simpa using hm
 refine ⟨.int .u8 (s.data.toList[m].toNat:Nat),by rw [ht];simp [hm],?_,rfl⟩;have:Qm [some .u8] s m 0=.int .u8 (s.data.toList[m].toNat:Nat):=by
  simp only [Qm,rsz,csz,Qc1,decK];rw [show m*(1+0)=m by omega,List.drop_eq_getElem_cons hlt];simp only [List.take_succ_cons,List.take_zero,deB,List.foldl_cons,List.foldl_nil,Nat.zero_mul,Nat.zero_add];generalize s.data.toList[m]=b;have:=UInt8.toNat_lt b
  congr 1
  simp [IntKind.wrap,IntKind.bits,IntKind.signed];omega
 rw [this];exact .int _ _
end Go.Ev
namespace Go.Ev
set_option linter.unusedVariables false
set_option linter.unusedSimpArgs false
section
variable {P : Program} {g : Inj} {ng : Cx} {t : Tm} {ρ : Operand -> Value} {H : List Blk} {w w' : World}
theorem Qud {V:Sig} (hg:ng.Good V) {a:AVal}:den V (Qch ng a)=den V a:=by
 unfold Qch;split;split;rename_i b hb;simp only [den,hg.fact _ b hb];rfl;split;rename_i n hn;simp only [den,hg.num _ n hn];rfl;rfl
theorem Q03 (w':World) (s:ByteArray):(Builtin.firstCells 1 s.size (.string s)).run P w'=.ok (s.toList.map fun b=>Value.int .u8 b.toNat).toArray w':=by
 have he:s.extract 0 s.size=s:=by
  apply ByteArray.ext;simp [ByteArray.extract,ByteArray.copySlice]
 simp only [Builtin.firstCells,he,Sem.run_pure]
 congr 1
 rw [ByteArray.toList_eq];apply Array.ext';simp
theorem Qz6 {a:AVal} (h:Qpl a=true):a=.str .empty:=by
 unfold Qpl at h;split at h;rename_i s;have:=Nat.eq_of_beq_eq_true h;have h2:s=.empty:=by
  apply ByteArray.ext;exact Array.eq_empty_of_size_eq_zero this
 rw [h2];cases h
theorem Qba5 (hg:ng.Good g.sig) {a b c:AVal} {A B:ByteArray} (h:catL ng a b=some c) (ha:den g.sig a=.str A) (hb:den g.sig b=.str B):den g.sig c=.str (A++B):=by
 unfold catL at h;split at h;rename_i he;cases h;rw [Qz6 he] at ha;cases ha;rw [hb];have e:(ByteArray.empty++B)=B:=by
  apply ByteArray.ext;simp [ByteArray.data_append]
 rw [e];split at h;rename_i he;cases h;rw [Qz6 he] at hb;cases hb;rw [ha];have e:(A++ByteArray.empty)=A:=by
  apply ByteArray.ext;simp [ByteArray.data_append]
 rw [e];have:=Qdc hg h;simp only [Qb,List.map,ha,hb,sopA,Option.some.injEq] at this;exact this.symm
theorem Q99 (hg:ng.Good g.sig) {K:Nat} {a b r:AVal} {x y:Nat} (h:addL ng K a b=some r) (ha:den g.sig a=.int .i64 x) (hb:den g.sig b=.int .i64 y):den g.sig r=.int .i64 ((x+y:Nat):Int)/\x+y<=K:=by
 unfold addL at h;split at h;rename_i r' hr;split at h;rename_i hc;cases h;simp only [Bool.and_eq_true] at hc;have key:den g.sig r=.int .i64 ((x+y:Nat):Int):=by
  split at hr;rename_i hz;cases hr;rw [Qdm hz] at ha;simp only [den,AVal.int.injEq,true_and] at ha;rw [hb];congr 1;omega;split at hr;rename_i hz;cases hr;rw [Qdm hz] at hb;simp only [den,AVal.int.injEq,true_and] at hb;rw [ha];congr 1;omega;split at hr;rename_i x' y' e1 e2;cases hr;have e1:=Qcu e1;have e2:=Qcu e2;subst e1;subst e2;simp only [den,AVal.int.injEq,true_and] at ha hb;simp only [den,AVal.int.injEq,true_and];omega;split at hr;rename_i hk;simp only [Bool.and_eq_true] at hk;obtain ⟨n1,d1,l1,u1⟩:=Quv hg hk.1;have hy:(y:Int)<=9223372036854775807:=by
   have hk2:=hk.2;simp only [Bool.or_eq_true] at hk2;rcases hk2 with hk2|hk2
   obtain ⟨n2,d2,l2,u2⟩:=Quv hg hk2;rw [hb] at d2;simp only [AVal.int.injEq,true_and] at d2;omega;exact Qco hg hk2 hb rfl
  rw [ha] at d1;simp only [AVal.int.injEq,true_and] at d1;have h1:=Qdc hg hr;simp only [Qb,ha,hb,binS,intA,if_true,Option.some.injEq] at h1;have h0:=Qco hg hc.1 rfl h1.symm;rw [<-h1]
  congr 1
  simp only [IntKind.wrap,IntKind.bits,IntKind.signed] at h0⊢;simp at h0⊢;split at h0<;>split<;>omega;cases hr
 have:=Qco hg hc.2 key rfl;exact ⟨key,by omega⟩;cases h;cases h
def Qdd (C:Array Value) (o n:Nat):List Value:=(List.range n).map fun i=>C.getD (o+i) default
theorem Qtk {C:Array Value} {o n i:Nat} {v:Value} (hi:i<n) (h:C[o+i]? =some v):(Qdd C o n)[i]? =some v:=by
 have hlt:=(Array.getElem?_eq_some_iff.1 h).1;simp [Qdd,hi,h]
theorem Qzd {C:Array Value} {o n i:Nat} {v:Value} (hn:o+n<=C.size) (h:(Qdd C o n)[i]? =some v):C[o+i]? =some v:=by
 have hlt:i<n:=by simpa [Qdd] using (List.getElem?_eq_some_iff.1 h).1
 simp only [Qdd,List.getElem?_map,List.getElem?_range hlt,Option.map_some,Option.some.injEq] at h;rw [Array.getD_eq_getD_getElem?,Array.getElem?_eq_getElem (by omega:o+i<C.size)] at h;rw [Array.getElem?_eq_getElem (by omega:o+i<C.size)];simpa using h
theorem Qblw {S:ByteArray} {N:Nat} {C:Array Value} {cl:List (Option IntKind)} {L:Loc} (h3:S.data.toList.length=N*rsz cl) (h5:C.size=L.dl+L.n) (h7:N*cl.length<=L.n)
  (h8: ∀m j,m<N->j<cl.length-> ∃v,C[L.dl+m*cl.length+j]? =some v/\VRel g (Qm cl S m j) v/\v.oneCell'=true):RowsV g cl S N (Qdd C L.dl (N*cl.length)):=by
 refine ⟨h3,by simp [Qdd],fun m j hm hj=> ?_⟩;obtain ⟨v,a,b,c⟩:=h8 m j hm hj;refine ⟨v,Qtk ?_ (by rw [show L.dl+(m*cl.length+j)=L.dl+m*cl.length+j by omega];exact a),b,c⟩;have:(m+1)*cl.length<=N*cl.length:=Nat.mul_le_mul_right _ hm;rw [Nat.add_mul,Nat.one_mul] at this;omega
theorem Qg4 (w':World) (z m cap:Nat) (ao:Option Addr):(Builtin.firstCells z 0 (.slice ao m cap)).run P w'=.ok #[] w':=by
 cases ao with
 |none=>simp [Builtin.firstCells]
 |some a=>simp [Builtin.firstCells,loadCells,loadCellsFrom]
theorem Q6a (hH:HRel ng g H w) {b:Nat} {ap:Bool} {off n s nb:AVal} {cl:List (Option IntKind)} {e:TypeId} {u:Value} (hb:H[b]? =some (.lst s nb cl e)) (hx:VRel g (.lsl b cl.length ap off n) u) (hz:isZ off=true) (hn:Qgn n nb=true):
  ∃(ao:Option Addr) (m cap:Nat) (S:ByteArray) (vs:List Value),u=.slice ao m cap/\m<=cap/\den g.sig n=.int .i64 (m:Int)/\den g.sig s=.str S/\RowsV g cl S m vs/\(∀w',w'.heap=w.heap->(Builtin.firstCells cl.length m u).run P w'=.ok vs.toArray w')/\
   (0<m-> ∃(L:Loc) (C:Array Value) (fr:Nat×Nat) (e':TypeId),g b=some L/\ao=some ⟨L.blk,L.dl,none⟩/\w.heap[L.blk]? =some (.cells C e' fr)/\C.size=L.dl+L.n/\(e≠0->e'=e/\FrOkL cl fr C/\ ∀i X,1000<=i->g.sig.ext i=some X->X.blk≠L.blk)/\(cap*cl.length<=L.n/\cap<=9223372036854775807)/\vs=Qdd C L.dl (m*cl.length)):=by
 cases hx with
 |lsl _ _ _ _ _ o m cap ao h1 h2 h3 h4 h5=>
  rw [Qdm hz] at h1;simp only [den,AVal.int.injEq,true_and] at h1;have ho:o=0:=by omega
  subst ho;have hnb:=Qoe hn;subst hnb;rcases hH.blk0 b _ hb (by simp) with ⟨s',n',cl',e',hk,hs0,hn0⟩|⟨L,hL,S,N,C,fr,e',b1,b2,b3,b4,b5,b6,b7,b8⟩
  cases hk;have hm0:m=0:=by
   rw [h2] at hn0;simp only [AVal.int.injEq,true_and] at hn0;omega
  subst hm0;exact ⟨ao,0,cap,.empty,[],rfl,h3.1,h2,hs0,RowsV.nil,fun w' _=>Qg4 w' _ _ _ _,fun h=>absurd h (Nat.lt_irrefl 0)⟩;have hN:N=m:=by
   rw [h2] at b2;simp only [AVal.int.injEq,true_and] at b2;omega
  subst hN;have hr:=Qblw b3 b5 b7 b8;refine ⟨ao,N,cap,S,_,rfl,h3.1,h2,b1,hr,fun w' hw'=> ?_,fun hp=> ?_⟩;rcases Nat.eq_zero_or_pos N with h0|h0
  subst h0;rw [Qg4];simp [Qdd];obtain ⟨L',k1,k2,k3⟩:=h5 h0;rw [hL] at k1;cases k1;subst k2;have hcell: ∀(j:Nat) (v:Value),(Qdd C L.dl (N*cl.length))[j]? =some v->w'.cell? ((⟨L.blk,L.dl+0*cl.length,none⟩:Addr).add j)=some v:=by
   intro j v hj;rw [Qbs,Qdw (by rw [hw'];exact b4)];have:=Qzd (by omega) hj;rw [show L.dl+0*cl.length+j=L.dl+j by omega];exact this
  exact run_firstCells_some (P:=P) w' cl.length N ⟨L.blk,L.dl+0*cl.length,none⟩ N cap _ hr.len hcell;obtain ⟨L',k1,k2,k3⟩:=h5 hp;rw [hL] at k1;cases k1;exact ⟨L,C,fr,e',hL,by rw [k2];simp,b4,b5,b6.1,⟨by simpa using k3,h3.2⟩,rfl⟩
theorem Q87 (hH:HRel ng g H w) {cl:List (Option IntKind)} {x sc sn:AVal} {u:Value} (h:srcL ng cl x H=some (sc,sn)) (hx:VRel g x u):
  ∃(k:Nat) (S:ByteArray) (news:List Value),Builtin.lenOf u=pure k/\(∀w',w'.heap=w.heap->(Builtin.firstCells cl.length k u).run P w'=.ok news.toArray w')/\den g.sig sn=.int .i64 (k:Int)/\den g.sig sc=.str S/\RowsV g cl S k news:=by
 unfold srcL at h;split at h;cases h;cases hx;exact ⟨0,.empty,[],rfl,fun w' _=>Qg4 w' _ _ _ _,rfl,rfl,RowsV.nil⟩;rename_i b z ap off n;split at h
 ·rename_i hz
  cases h;cases hx with
  |lsl _ _ _ _ _ o m cap ao h1 h2 h3 h4 h5=>
   rw [Qdm hz] at h2;simp only [den,AVal.int.injEq,true_and] at h2;have hm:m=0:=by omega
   subst hm;exact ⟨0,.empty,[],rfl,fun w' _=>Qg4 w' _ _ _ _,rfl,rfl,RowsV.nil⟩
 split at h;rename_i s nb cl' e hb;split at h;rename_i hc;cases h;simp only [Bool.and_eq_true,decide_eq_true_eq] at hc;obtain ⟨rfl,c1,c2,c3⟩:=hc;have c1:=Nat.eq_of_beq_eq_true c1;subst c1;obtain ⟨ao,m,cap,S,vs,rfl,k1,k2,k3,k4,k5,_⟩:=Q6a (P:=P) hH hb hx c2 c3;exact ⟨m,S,vs,rfl,k5,k2,k3,k4⟩;cases h;cases h;rename_i b off len cap ex;split at h;rename_i l hl;split at h;rename_i hok;split at h;rename_i s hs;cases h;obtain ⟨vs,k1,k2,k3,k4,k5⟩:=Qod (P:=P) hH hl hx (by simp);have hd:=Qdc hH.sig hs;simp only [Qb,sopA,Option.some.injEq] at hd;refine ⟨len,_,vs,?_,k1,rfl,hd.symm,Q8h hH.sig hok k3 k4⟩;cases hx;rfl;cases h;cases h;cases h;rename_i s;split at h;rename_i hb;cases h;have hcl:cl=[some .u8]:=by
  unfold Qjq at hb;split at hb;rfl;cases hb
 subst hcl;cases hx;exact ⟨s.size,s,_,rfl,fun w' _=>Q03 w' s,rfl,rfl,Qxk s⟩;cases h;rename_i i;split at h;rename_i hb;split at h;rename_i n hn;cases h;have hcl:cl=[some .u8]:=by
  unfold Qjq at hb;split at hb;rfl;cases hb
 subst hcl;cases hx;refine ⟨(g.sig.s i).size,g.sig.s i,_,rfl,fun w' _=>Q03 w' _,?_,rfl,Qxk _⟩;rw [Qud hH.sig];exact Qmm hH.sig hn;cases h;cases h;cases h
theorem HRel.snocNone (hH:HRel ng g H w) {k:Blk} (hk:Qce g k):HRel ng g (H++[k]) w/\Ext g H w g (H++[k]) w:=by
 have hback: ∀i L,g i=some L->i<H.length:=fun i L h=>(hH.dom i L h).1;have hlive: ∀i,i<H.length->Live (H++[k]) i->Live H i:=fun i hi ⟨b,hb,hne⟩=>⟨b,by rwa [List.getElem?_append_left hi] at hb,hne⟩;refine ⟨⟨fun i L hi=> ?_,fun i j L M hi hj hb li lj=>hH.inj i j L M hi hj hb (hlive i (hback i L hi) li) (hlive j (hback j M hj) lj),fun i b hi hb=> ?_,hH.glob,hH.sig,?_⟩,
  ⟨Sub.refl g,(fun i L hi hn=>by rw [hn] at hi;cases hi),(fun i L hi hn=>by rw [hn] at hi;cases hi),by simp,hlive,Nat.le_refl _,fun _ _ _=>rfl,rfl,rfl,rfl⟩⟩
 have:=hH.dom i L hi;exact ⟨by simp;omega,this.2⟩;rcases Nat.lt_or_ge i H.length with h9|h9
 rw [List.getElem?_append_left h9] at hi;exact hH.blk0 i b hi hb;rw [List.getElem?_append_right h9] at hi;have:i-H.length=0:=by have:=(List.getElem?_eq_some_iff.1 hi).1;simp at this;omega
 rw [this] at hi;simp at hi;subst hi;exact .inl hk;exact hH.frz.to rfl rfl (by simp) (Nat.le_refl _) fun b hb q2=>⟨rfl,fun j L hj lj=>q2 j L hj (hlive j (hback j L hj) lj)⟩
theorem HRel.goneO (hH:HRel ng g H w) (old:Option Nat):HRel ng g (Ev.goneO H old) w/\Ext g H w g (Ev.goneO H old) w/\(Ev.goneO H old).length=H.length:=by
 cases old with
 |none=>exact ⟨hH,Ext.refl _ _ _,rfl⟩
 |some b=>exact ⟨HRel.drop hH,Ext.drop,by simp [Ev.goneO]⟩
theorem Qbk3 {V:Sig} {a:AVal} {k:Nat} (h:posI a=true) (hd:den V a=.int .i64 (k:Int)):0<k:=by
 unfold posI at h;split at h;simp only [den,AVal.int.injEq,true_and] at hd;simp only [decide_eq_true_eq] at h;omega;cases h
theorem Qbbk (hH:HRel ng g H w) {i:Nat} {X:Fz} {ao:Option Addr} {cl:List (Option IntKind)} {S:ByteArray} {cap:Nat} (h1:g.sig.ext i=some X) (z1:cl.length=X.z) (z3:S.data.toList.length=X.len*rsz cl) (z4: ∀m j,m<X.len->j<X.z->X.val m j=Qm cl S m j)
  (h2:0<X.len->ao=some ⟨X.blk,X.off,none⟩): ∃vs:List Value,RowsV g cl S X.len vs/\ ∀w',w'.heap=w.heap->(Builtin.firstCells cl.length X.len (.slice ao X.len cap)).run P w'=.ok vs.toArray w':=by
 rcases Nat.eq_zero_or_pos X.len with h0|h0;refine ⟨[],⟨z3,by simp [h0],fun m j hm=>by omega⟩,fun w' _=> ?_⟩;rw [h0];first|exact Qg4 w' _ _ _ _|rfl
 have hao:=h2 h0;subst hao;obtain ⟨C,e,fr,c1,c2,_⟩:=(hH.frz.row i X h1 h0).1;have hget: ∀m j,m<X.len->j<cl.length-> ∃v,(Qdd C X.off (X.len*cl.length))[m*cl.length+j]? =some v/\VRel g (Qm cl S m j) v/\v.oneCell'=true:=by
  intro m j hm hj;obtain ⟨v,v1,v2,v3⟩:=c2 m j hm (by omega);refine ⟨v,Qtk ?_ (by rw [<-z1] at v1;rw [show X.off+(m*cl.length+j)=X.off+m*cl.length+j by omega];exact v1),?_,v3⟩;have:(m+1)*cl.length<=X.len*cl.length:=Nat.mul_le_mul_right _ hm;rw [Nat.add_mul,Nat.one_mul] at this;omega;rw [<-z4 m j hm (by omega)];exact v2 g
 have hr:RowsV g cl S X.len (Qdd C X.off (X.len*cl.length)):=⟨z3,by simp [Qdd],hget⟩;refine ⟨_,hr,fun w' hw'=> ?_⟩;refine run_firstCells_some (P:=P) w' cl.length X.len ⟨X.blk,X.off,none⟩ X.len cap _ hr.len fun j v hj=> ?_;rw [Qbs,Qdw (by rw [hw'];exact c1)];have hjl:j<X.len*cl.length:=by simpa [Qdd] using (List.getElem?_eq_some_iff.1 hj).1
 have hcl:0<cl.length:=by
  rcases Nat.eq_zero_or_pos cl.length with h9|h9;rw [h9] at hjl;simp at hjl;exact h9
 have hm:j/cl.length<X.len:=by
  rw [Nat.div_lt_iff_lt_mul hcl];exact hjl
 have hjj:j%cl.length<cl.length:=Nat.mod_lt _ hcl;obtain ⟨v',a1,a2,a3⟩:=c2 (j/cl.length) (j%cl.length) hm (by omega);have e1:X.off+j/cl.length*X.z+j%cl.length=X.off+j:=by
  rw [<-z1,Nat.add_assoc]
  congr 1
  rw [Nat.mul_comm];exact Nat.div_add_mod j cl.length
 rw [e1] at a1;rw [Qtk hjl a1] at hj;cases hj;exact a1
theorem Qbbx (hH:HRel ng g H w) {cl:List (Option IntKind)} {e:TypeId} {s dc dn:AVal} {old:Option Nat} {su:Value} (h:dstL ng cl e s H=some (dc,dn,old)) (hx:VRel g s su):
  ∃(ao:Option Addr) (m cap:Nat) (S:ByteArray) (vs:List Value),su=.slice ao m cap/\m<=cap/\den g.sig dn=.int .i64 (m:Int)/\den g.sig dc=.str S/\RowsV g cl S m vs/\(∀w',w'.heap=w.heap->(Builtin.firstCells cl.length m su).run P w'=.ok vs.toArray w')/\
   ((m=0/\cap=0)\/(Qqi s=true/\cap=m)\/ ∃(b:Nat) (L:Loc) (C:Array Value) (fr:Nat×Nat),0<m/\old=some b/\Live H b/\g b=some L/\ao=some ⟨L.blk,L.dl,none⟩/\w.heap[L.blk]? =some (.cells C e fr)/\C.size=L.dl+L.n/\(FrOkL cl fr C/\ ∀i X,1000<=i->g.sig.ext i=some X->X.blk≠L.blk)/\(cap*cl.length<=L.n/\cap<=9223372036854775807)/\vs=Qdd C L.dl (m*cl.length)):=by
 unfold dstL at h;split at h;cases h;cases hx;exact ⟨none,0,0,.empty,[],rfl,Nat.le_refl _,rfl,rfl,RowsV.nil,fun w' _=>Qg4 w' _ _ _ _,.inl ⟨rfl,rfl⟩⟩;rename_i i;split at h;rename_i c cl' n hc hn;split at h
 ·rename_i hcl
  cases h;simp only [decide_eq_true_eq] at hcl;subst hcl;cases hx with
  |crow _ X ao h1 h2=>
   have dn:=hH.sig.rlen i n X hn h1;obtain ⟨z1,S,z2,z3,z4⟩:=hH.sig.rstr i _ _ X hc h1;obtain ⟨vs,v1,v2⟩:=Qbbk (P:=P) hH h1 z1 z3 z4 h2;exact ⟨ao,X.len,X.len,S,vs,rfl,Nat.le_refl _,by rw [Qud hH.sig];exact dn,z2,v1,v2,.inr (.inl ⟨rfl,rfl⟩)⟩
 cases h;cases h;rename_i b z ap off n;split at h;rename_i hz;split at h
 ·cases h
  cases hx with
  |lsl _ _ _ _ _ o m cap ao h1 h2 h3 h4 h5=>
   rw [Qdm hz] at h2;simp only [den,AVal.int.injEq,true_and] at h2;have hm:m=0:=by omega
   subst hm;have hc:=(h4 rfl).2 rfl;subst hc;exact ⟨ao,0,0,.empty,[],rfl,Nat.le_refl _,rfl,rfl,RowsV.nil,fun w' _=>Qg4 w' _ _ _ _,.inl ⟨rfl,rfl⟩⟩
 cases h;split at h;rename_i c nb cl' e' hb;split at h;rename_i hc;cases h;simp only [Bool.and_eq_true,decide_eq_true_eq] at hc;obtain ⟨rfl,rfl,⟨c0,c00⟩,c1,c2,c3⟩:=hc;have c0:=Nat.eq_of_beq_eq_true c0;have c1:=Nat.eq_of_beq_eq_true c1;subst c0;subst c1;have hap: ∃o m cap ao,su=.slice ao m cap/\den g.sig dn=.int .i64 (m:Int)/\(m=0->cap=0)/\o=0:=by
  cases hx with
  |lsl _ _ _ _ _ o m cap ao h1 h2 h3 h4 h5=>exact ⟨0,m,cap,ao,rfl,h2,(h4 rfl).2,rfl⟩
 obtain ⟨_,m',cap',ao',rfl,d1,d2,_⟩:=hap;obtain ⟨ao,m,cap,S,vs,hu,k1,k2,k3,k4,k5,k6⟩:=Q6a (P:=P) hH hb hx c2 c3;cases hu;refine ⟨ao',m',cap',S,vs,rfl,k1,k2,k3,k4,k5,?_⟩;rcases Nat.eq_zero_or_pos m' with h0|h0;exact .inl ⟨h0,d2 h0⟩;obtain ⟨L,C,fr,e9,q1,q2,q3,q4,q5,q6,q7⟩:=k6 h0;obtain ⟨h9,q5'⟩:=q5 (fun h=>by rw [h] at c00;cases c00);subst h9;exact .inr (.inr ⟨b,L,C,fr,h0,rfl,⟨_,hb,by simp⟩,q1,q2,q3,q4,q5',q6,q7⟩);cases h;cases h;rename_i b off len cap ex;split at h;split at h
 ·rename_i hz
  cases h;rw [Bool.and_eq_true] at hz;have z1:=Nat.eq_of_beq_eq_true hz.1;have z2:=Nat.eq_of_beq_eq_true hz.2;subst z1;subst z2;cases hx with
  |slice _ _ _ _ _ o2 cv L hL h0 h1 h2=>
   have:=h1 rfl;subst this;exact ⟨_,0,0,.empty,[],rfl,Nat.le_refl _,rfl,rfl,RowsV.nil,fun w' _=>Qg4 w' _ _ _ _,.inl ⟨rfl,rfl⟩⟩
 split at h;rename_i hlc;split at h
 ·rename_i sc sn hsr
  cases h;have hcw:Qqi (.slice b off len cap none)=true:=hlc;rw [Bool.and_eq_true] at hlc;have e1:=Nat.eq_of_beq_eq_true hlc.1;obtain rfl:cap=len:=e1.symm;obtain ⟨k,S,news,k1,k2,k3,k4,k5⟩:=Q87 (P:=P) hH hsr hx;cases hx with
  |slice _ _ _ _ _ o2 cv L hL h0 h1 h2=>
   have hcv:=h1 rfl;subst hcv;have hk:k=cv:=by
    have h9:(Builtin.lenOf (.slice (some ⟨L.blk,L.dl+o2,none⟩) cv cv)).run P w=(pure k:Sem Nat).run P w:=by rw [<-k1]
    simp [Builtin.lenOf] at h9;exact h9.symm
   subst hk;exact ⟨_,k,k,S,news,rfl,Nat.le_refl _,k3,k4,k5,k2,.inr (.inl ⟨hcw,rfl⟩)⟩
 cases h;cases h;cases h;cases h
theorem Qbai {hp hp':Hp} (hH:HRel ng g hp.heap w) {ts:Array TypeId} {ty:TypeId} {l:List AVal} {m:Array Value} {r:AVal} (h:Qlh P ng ts.toList l hp=some (r,hp')) (hl:LRel g l m.toList):
  ∃v w' g',(Builtin.append_ ts ty m).run P w=.ok v w'/\VRel g' r v/\After P g ng hp hp' w w' g':=by
 unfold Qlh at h;split at h
 ·rename_i tt xt s x e1
  obtain ⟨ts⟩:=ts;obtain ⟨m⟩:=m;simp at e1;subst e1;simp only at hl;cases hl with
  |cons _ su _ _ hs hl=>
  cases hl with
  |cons _ xu _ _ hx hl=>
  cases hl;split at h;rename_i e dx ht hdx;split at h;rename_i ie z cl hie hz hcl;split at h;rename_i hc;obtain ⟨hd,c1,c2,c3,c4,c5⟩:=hc;split at h;rename_i dc dn old sc sn hdst hsrc;split at h;rename_i c n hcat hadd0;cases h;obtain ⟨hadd,hpos0⟩:addL ng (140737488355328/ie.bytes) dn sn=some n/\(!(Qqi s)||posI sn)=true:=by
   split at hadd0;rename_i hp;exact ⟨hadd0,hp⟩;cases hadd0
  obtain ⟨i',zv,hi',hzv,hzr⟩:=Qht hz;rw [hie] at hi';cases hi';have hzs:zv.cells.size=ie.size:=by have:=(hzr g).cells.length;simp at this;omega
  have hz1: ∀v,v∈zv.cells.toList->v.oneCell'=true:=Qds c3 (hzr g).cells;obtain ⟨k,T,news,s1,s2,s3,s4,s5⟩:=Q87 (P:=P) hH hsrc hx;obtain ⟨ao,mm,cap,S,ovs,rfl,d1,d2,d3,d4,d5,d6⟩:=Qbbx (P:=P) hH hdst hs;have hc1:=Qba5 hH.sig hcat d3 s4;obtain ⟨hn1,hn2⟩:=Q99 hH.sig hadd d2 s3;have hrows:=d4.append s5;have hbytes:(mm+k)*ie.bytes<=140737488355328:=Nat.le_trans (Nat.mul_le_mul_right _ hn2) (Nat.div_mul_le_self _ _);have hsmall:mm+k<=140737488355328:=Nat.le_trans hn2 (Nat.div_le_self _ _);rw [<-c4];obtain ⟨o1,o2,o3⟩:=hH.goneO old;by_cases hroom:mm+k<=cap;rcases d6 with ⟨hm0,hc0⟩|⟨hcr,hcm⟩|⟨b,L,C,fr,hpos,rfl,q0,q1,rfl,q2,q3,⟨q4,q4m⟩,q5,q6⟩
  ·--nothing behind nothing
   subst hm0;subst hc0;have hk:k=0:=by omega
   subst hk;have hnone:Qce g (.lst c n cl e):=by
    refine ⟨c,n,cl,e,rfl,?_,by simpa using hn1⟩;rw [hc1]
    congr 1
    apply ByteArray.ext;have:=hrows.size;apply Array.eq_empty_of_size_eq_zero;simpa using this
   have hn0:news=[]:=List.eq_nil_of_length_eq_zero (by rw [s5.len];simp);subst hn0;obtain ⟨r1,r2⟩:=HRel.snocNone o1 hnone;refine ⟨.slice ao 0 0,w,g,?_,.lsl _ _ true _ n 0 0 0 ao rfl (by simpa using hn1) ⟨Nat.le_refl _,by decide⟩ (fun _=>⟨rfl,fun _=>rfl⟩) (fun hp=>absurd hp (Nat.lt_irrefl 0)),r1,o2.trans hH r2⟩;have hw:=s2 w rfl;cases ao with
   |none=>
    rw [c4] at hw;cases dx<;>first|(simp [Qgi] at hd;done)|simp [Builtin.append_,run_underlying ht,run_underlying hdx,Qbg w hie,s1,hw]
   |some ad=>
    have:=Qsd (P:=P) (w:=w) tt xt ty e dx ie ht hdx hd hie ad 0 0 0 xu [] s1 (by rw [<-c4];exact hw) (Nat.le_refl _);rw [this];simp [storeCells]
  --without room,nothing can be behind
  rw [hcr] at hpos0;simp only [Bool.not_true,Bool.false_or] at hpos0;have:=Qbk3 hpos0 s3;omega;have hrun:=Qsd (P:=P) (w:=w) tt xt ty e dx ie ht hdx hd hie ⟨L.blk,L.dl,none⟩ mm cap k xu news s1 (by rw [<-c4];exact s2 w rfl) hroom;have hmul:(mm+k)*cl.length<=cap*cl.length:=Nat.mul_le_mul_right _ hroom;rw [Nat.add_mul] at hmul;have hnl:=s5.len;obtain ⟨w',j1,j2,j3⟩:=Qk1 (P:=P) L.blk (L.dl+mm*cl.length) e fr news 0 C w q2 q4.not (by omega) s5.one;have hB:BRel (upd g hp.heap.length L) w' (.lst c n cl e) L:=by
   refine ⟨S++T,mm+k,_,fr,e,hc1,hn1,hrows.size,j3,by rw [Qdz];exact q3,⟨fun _=>⟨rfl,⟨⟨by rw [Qdz];exact q4.not,by rw [Qdz];exact q4.eq,Ql6 news 0 _ C s5.one q4.one⟩,q4.un⟩,q4m⟩,fun i X hi hX he=>absurd he (q4m i X hi hX)⟩,by rw [Nat.add_mul];omega,fun i j hi hj=> ?_⟩;obtain ⟨v,a,b',c'⟩:=hrows.cell i j hi hj;refine ⟨v,?_,b'.mono (Qe0 _ (Qp8 hH)),c'⟩;have hol:ovs.length=mm*cl.length:=d4.len;by_cases hlt:i*cl.length+j<ovs.length;rw [List.getElem?_append_left hlt] at a;rw [Qp7 _ _ _ (by intro x hx;omega)];rw [q6] at a;have:=Qzd (by omega) a;rw [show L.dl+i*cl.length+j=L.dl+(i*cl.length+j) by omega];exact this;rw [List.getElem?_append_right (by omega)] at a;have:=Qp6 news 0 (L.dl+mm*cl.length) C (by omega) _ v a;rw [show L.dl+mm*cl.length+0+(i*cl.length+j-ovs.length)=L.dl+i*cl.length+j by omega] at this;exact this
  obtain ⟨r1,r2⟩:=HRel.retip hH q0 q1 rfl j2 hB;refine ⟨.slice (some ⟨L.blk,L.dl,none⟩) (mm+k) cap,w',upd g hp.heap.length L,?_,?_,r1,r2⟩;rw [hrun,Qbs,<-c4,j1];rfl;refine .lsl _ _ true _ n 0 (mm+k) cap _ rfl hn1 ⟨hroom,by omega⟩ (fun _=>⟨rfl,fun h0=>by omega⟩) (fun hp=>⟨L,Q4 _ _ _,by simp,by simpa using q5.1⟩);have hgr:cap<mm+k:=by omega
  have hrun:=Qxl (P:=P) (w:=w) tt xt ty e dx ie zv ht hdx hd hie hzv ao mm cap k xu ovs news s1 (by rw [<-c4];exact s2 w.drew rfl) (by rw [<-c4];exact d5 w.drew rfl) hgr (by omega) (growslice_fits hgr hbytes);have e1:ovs.toArray++news.toArray=(ovs++news).toArray:=by simp
  rw [e1] at hrun;have hone: ∀v,v∈((ovs++news).toArray++Builtin.zeroCells zv.cells (grownCap w (mm+k) cap e-(mm+k))).toList->v.oneCell'=true:=by
   intro v hv;simp only [Array.toList_append,List.mem_append] at hv;rcases hv with hv|hv
   exact hrows.one v (by simpa using hv);exact Q95 hz1 v hv
  obtain ⟨g2,g3⟩:=HRel.newLst hH o1 o3 (e:=e) (C:=(ovs++news).toArray++Builtin.zeroCells zv.cells (grownCap w (mm+k) cap e-(mm+k))) hc1 hn1 hrows (fun i v hv=>by
   have:=(List.getElem?_eq_some_iff.1 hv).1;rw [Array.getElem?_append_left (by simpa using this)];simpa using hv) hone
  have hge:=grownCap_ge w (mm+k) cap e;have hCs:((ovs++news).toArray++Builtin.zeroCells zv.cells (grownCap w (mm+k) cap e-(mm+k))).size=grownCap w (mm+k) cap e*cl.length:=by
   have:=hrows.len;simp only [Array.size_append,List.size_toArray,size_zeroCells,hzs,this,<-c4,<-Nat.add_mul]
   congr 1;omega
  refine ⟨_,_,_,hrun,?_,g2,o2.trans hH g3⟩;refine .lsl _ _ true _ n 0 (mm+k) _ _ rfl hn1 ⟨hge,by have:=grownCap_le_maxLen w (mm+k) cap e (by unfold maxLen;omega);unfold maxLen at this;omega⟩ (fun _=>⟨rfl,fun h0=>by omega⟩) (fun hp=>⟨_,Q4 _ _ _,by simp,?_⟩);rw [Nat.zero_add,hCs];exact Nat.le_refl _;cases h;cases h;cases h;cases h;cases h
 cases h
end
end Go.Ev
namespace Go.Ev
set_option linter.unusedVariables false
set_option linter.unusedSimpArgs false
section
variable {P : Program} {g : Inj} {ng : Cx} {H : List Blk} {w w' : World}
def Qsp (P:Program) (ng:Cx) (ty:TypeId) (a v:AVal) (hp:Hp):Option Hp:=
 match a with
 |.lptr b z ix j=>match hp.heap[b]?,P.info? ty with
  |some (.lst s n cl e),some i=>match (Nat.beq j 0&&Nat.blt 0 e)&&(Nat.beq cl.length z&&(Nat.beq i.size z&&(Nat.beq (Q6 v).length z&&(okCs ng cl (Q6 v)&&(Qcn (Q6 v)&&(leqT ng (.int .i64 0) ix&&lssT ng ix n)))))) with
   |true=>match symS ng (.sop (.upd cl 0) (s::ix::Q6 v)) with
    |some c=>some ⟨hp.heap.set b (.lst c n cl e),b::hp.log⟩
    |none=>none
   |false=>none
  |_,_=>none
 |_=>none
theorem Qbof {ng:Cx} {V:Sig} (hg:ng.Good V) {cl:List (Option IntKind)} {l:List AVal} {S:ByteArray} {N m:Nat} (hS:S.data.toList.length=N*rsz cl) (hm:m<N) (hok:okCs ng cl l=true):
  (⟨(updR cl S.data.toList m (l.map (den V))).toArray⟩:ByteArray).data.toList.length=N*rsz cl/\ ∀k j,j<cl.length->Qm cl ⟨(updR cl S.data.toList m (l.map (den V))).toArray⟩ k j=if k=m then den V (l.getD j .nilptr) else Qm cl S k j:=by
 have hmul:(m+1)*rsz cl<=N*rsz cl:=Nat.mul_le_mul_right _ hm;have h1:(m+1)*rsz cl=m*rsz cl+rsz cl:=by rw [Nat.add_mul,Nat.one_mul]
 have hrl:=Qkt (V:=V) hok
 let A:ByteArray:=⟨(S.data.toList.take (m*rsz cl)).toArray⟩
 let B:ByteArray:=⟨(rowB cl (l.map (den V))).toArray⟩
 let D:ByteArray:=⟨(S.data.toList.drop ((m+1)*rsz cl)).toArray⟩
 have eU:(⟨(updR cl S.data.toList m (l.map (den V))).toArray⟩:ByteArray)=A++(B++D):=by
  apply ByteArray.ext;simp [A,B,D,updR,ByteArray.data_append]
 have lA:A.data.toList.length=m*rsz cl:=by simp [A];have:=hS;simp at this;omega
 have lB:B.data.toList.length=1*rsz cl:=by simp [B];omega
 have eS:S=⟨(S.data.toList.take ((m+1)*rsz cl)).toArray⟩++D:=by
  apply ByteArray.ext;simp only [ByteArray.data_append,D];apply Array.ext';simp
 have lT:(⟨(S.data.toList.take ((m+1)*rsz cl)).toArray⟩:ByteArray).data.toList.length=(m+1)*rsz cl:=by simp;have:=hS;simp at this;omega
 have eS2:S=A++⟨(S.data.toList.drop (m*rsz cl)).toArray⟩:=by
  apply ByteArray.ext;simp only [ByteArray.data_append,A];apply Array.ext';simp
 refine ⟨?_,fun k j hj=> ?_⟩;simp only [updR,List.length_append,hrl,List.length_take,List.length_drop,hS];omega;rw [eU,Qhm lA];by_cases hk:k<m;rw [if_pos hk,if_neg (by omega)]
 conv=>rhs;rw [eS2,Qhm lA,if_pos hk]
 rw [if_neg hk,Qhm lB];by_cases he:k=m;subst he;rw [if_pos rfl,if_pos (by omega),Nat.sub_self];have hl:=Qkj hok;have hget:l[j]? =some (l.getD j .nilptr):=by
  rw [List.getD_eq_getElem?_getD,List.getElem?_eq_getElem (by omega)];rfl
 have:=Qi7 hg [] hok j _ hget;rw [List.append_nil] at this;unfold Qm;rw [Nat.zero_mul,List.drop_zero];exact this;rw [if_neg he,if_neg (by omega)]
 conv=>rhs;rw [eS,Qhm lT,if_neg (by omega)]
 try congr 1
 try omega
theorem Q1c: ∀(vs:List Value) (i o:Nat) (C:Array Value) (j:Nat),(∀t,t<vs.length->j≠o+(i+t))->
  ((vs.zipIdx i).foldl (fun cs (x:Value×Nat)=>cs.setIfInBounds (o+x.2) x.1) C)[j]? =C[j]?
 |[],_,_,_,_,_=>rfl
 |v::vs,i,o,C,j,h=>by
  simp only [List.zipIdx_cons,List.foldl_cons];rw [Q1c vs (i+1) o _ j (fun t ht=>by have:=h (t+1) (by simp;omega);omega),Array.getElem?_setIfInBounds,if_neg (by have:=h 0 (by simp);omega)]
theorem Qbns {hp hp':Hp} (hH:HRel ng g hp.heap w) {ty:TypeId} {a v:AVal} {ua uv:Value} (h:Qsp P ng ty a v hp=some hp') (ha:VRel g a ua) (hv:VRel g v uv):
  ∃w',(Instr.storeAt ty ua uv).run P w=.ok () w'/\HRel ng g hp'.heap w'/\Ext g hp.heap w g hp'.heap w':=by
 unfold Qsp at h;split at h;rename_i b z ix j;split at h;rename_i s n cl e i hb hi;split at h;rename_i hc;simp only [Bool.and_eq_true] at hc;obtain ⟨⟨c0,c00⟩,c1,c2,c3,c4,c5,c6,c7⟩:=hc;have c0:=Nat.eq_of_beq_eq_true c0;have c1:=Nat.eq_of_beq_eq_true c1;have c2:=Nat.eq_of_beq_eq_true c2;have c3:=Nat.eq_of_beq_eq_true c3;subst c0;split at h
 ·rename_i c hcc
  cases h;cases ha with
  |lptr _ _ _ _ m L x1 x2 x3 x4=>
   rcases hH.blk0 b _ hb (by simp) with ⟨s',n',cl',e',hk,_,hn0⟩|⟨M,hM,S,N,C,fr,e9,b1,b2,b3,b4,b5,b6,b7,b8⟩;cases hk;have:=Qgd hH.sig c7 x2 hn0;omega;rw [x1] at hM;cases hM;obtain ⟨h9,b6',b6m⟩:=b6.1 (fun h=>by rw [h] at c00;cases c00);subst h9;have hmN:m<N:=by have:=Qgd hH.sig c7 x2 b2;omega
   have hr:=hv.cells;have hlen:=hr.length;have hone:=Qds c5 hr;have hsz:uv.cells.size=i.size:=by simp at hlen;omega
   have hul:uv.cells.toList.length=cl.length:=by simp at hlen⊢;omega
   have hmz:(m+1)*z<=N*z:=Nat.mul_le_mul_right _ hmN;rw [Nat.add_mul,Nat.one_mul] at hmz;have hle:L.dl+m*z+0+uv.cells.toList.length<=C.size:=by rw [<-c1] at hmz⊢;omega
   obtain ⟨w',k1,k2,k3⟩:=Qk1 (P:=P) L.blk (L.dl+m*z) e9 fr uv.cells.toList 0 C w b4 b6'.1.1 hle hone;have hcd:=Qdc hH.sig hcc;simp only [Qb,List.map_cons,b1,x2,sopA,Option.some.injEq,Int.toNat_natCast] at hcd;have hcd:=hcd.symm;obtain ⟨u1,u2⟩:=Qbof (V:=g.sig) hH.sig b3 hmN c4;have hB:BRel g w' (.lst c n cl e9) L:=by
    refine ⟨_,N,_,fr,_,hcd,b2,u1,k3,by rw [Qdz];exact b5,⟨fun _=>⟨rfl,⟨⟨by rw [Qdz];exact b6'.not,by rw [Qdz];exact b6'.eq,Ql6 uv.cells.toList 0 _ C hone b6'.one⟩,b6'.un⟩,b6m⟩,fun i X hi hX he=>absurd he (b6m i X hi hX)⟩,b7,fun k j hk hj=> ?_⟩;rw [u2 k j hj];by_cases he:k=m;subst he;rw [if_pos rfl];have hl:=Qkj c4;have hget:(Q6 v)[j]? =some ((Q6 v).getD j .nilptr):=by
     rw [List.getD_eq_getElem?_getD,List.getElem?_eq_getElem (by omega)];rfl
    obtain ⟨u,y1,y2⟩:=hr.get j _ hget;have:=Qp6 uv.cells.toList 0 (L.dl+k*z) C (by omega) j u y1;refine ⟨u,?_,Qn.2 y2,hone u (List.mem_of_getElem? y1)⟩;rw [c1,<-this];congr 1;rw [if_neg he];obtain ⟨u,y1,y2,y3⟩:=b8 k j hk hj;refine ⟨u,?_,y2,y3⟩;rw [<-y1];refine Q1c uv.cells.toList 0 (L.dl+m*z) C _ (fun t ht=> ?_);rw [hul] at ht;rw [c1] at ht hj⊢;rcases Nat.lt_or_gt_of_ne he with hlt|hgt;have:=Nat.mul_le_mul_right z hlt;rw [Nat.succ_mul] at this;omega;have:=Nat.mul_le_mul_right z hgt;rw [Nat.succ_mul] at this;omega
   obtain ⟨r1,r2⟩:=hH.writeK ⟨_,hb,by simp⟩ x1 k2 hB;refine ⟨w',?_,r1,r2⟩;simp only [Instr.storeAt,Instr.sureAddr,storeVar,Sem.run_bind,Sem.run_pure,Result.andThen_ok,Qbg w hi,hsz];simp [k1]
 cases h;cases h;cases h;cases h
end
end Go.Ev
namespace Go.Ev
set_option linter.unusedVariables false
set_option linter.unusedSimpArgs false
section
variable {P : Program} {g : Inj} {ng : Cx} {t : Tm} {w : World} {ρ : Operand -> Value}
def Qlq (P:Program) (ng:Cx) (t:Tm) (src dst:TypeId) (x:Operand) (hp:Hp):Option (AVal×Hp):=
 match P.underlying src,P.underlying dst with
 |some .string,some (.slice e)=>match P.underlying e,ev ng t x,Qrd e ng.lsts with
  |some (.int .u8),some (.syms i),some cl=>match Qjq cl,lenS ng i with
   |true,some n=>match leqT ng n (.int .i64 1000000) with
    |true=>some (.lsl hp.heap.length 1 false (.int .i64 0) (Qch ng n),⟨hp.heap++[.lst (.syms i) (Qch ng n) cl e],hp.log⟩)
    |false=>none
   |_,_=>none
  |_,_,_=>none
 |_,_=>none
theorem HRel.newLstF {H:List Blk} (hH:HRel ng g H w) {c n:AVal} {e:TypeId} {C:Array Value} {fr:Nat×Nat} {S:ByteArray} {N:Nat} {vs:List Value} (hc:den g.sig c=.str S) (hn:den g.sig n=.int .i64 (N:Int))
  (hr:RowsV g [some .u8] S N vs) (hC: ∀(i:Nat) (v:Value),vs[i]? =some v->C[i]? =some v) (h1:FrOk fr C):
  HRel ng (upd g H.length ⟨w.heap.size,0,C.size⟩) (H++[.lst c n [some .u8] e]) (w.drew.alloc (.cells C e fr))/\
  Ext g H w (upd g H.length ⟨w.heap.size,0,C.size⟩) (H++[.lst c n [some .u8] e]) (w.drew.alloc (.cells C e fr)):=by
 have hid:=Qp8 hH;have hng:ng.n<=H.length:=by
  rcases Nat.lt_or_ge H.length ng.n with h9|h9;obtain ⟨L,hL,_⟩:=hH.glob _ h9;rw [hid] at hL;cases hL;exact h9
 have:=HRel.allocK hH (w0:=w.drew) (H':=H++[.lst c n [some .u8] e]) hid hng (k:=.lst c n [some .u8] e) (O:=.cells C e fr) (n:=C.size) rfl rfl rfl rfl (by simp) (by
   intro j hj;rcases Nat.lt_or_ge j H.length with h9|h9
   rw [List.getElem?_append_left h9];rw [List.getElem?_append_right h9,List.getElem?_eq_none h9];have:j-H.length≠0:=by omega
   simp [this]) (by simp) (.inl (by omega)) (fun hnew=> ?_)
 exact ⟨this.1,this.2 (by omega)⟩;refine ⟨S,N,C,fr,e,hc,hn,hr.size,hnew,by simp,⟨fun _=>⟨rfl,⟨h1,.inl rfl⟩,fun i X hi hX he=>Nat.lt_irrefl _ (he▸hH.frz.top i X hi hX)⟩,fun i X hi hX he=>absurd (he▸hH.frz.top i X hi hX) (Nat.lt_irrefl _)⟩,?_,fun m j hm hj=> ?_⟩;show N*1<=C.size;rcases Nat.eq_zero_or_pos vs.length with h0|h0
 have:=hr.len;simp at this;omega;have hlast:vs[vs.length-1]? =some vs[vs.length-1]:=by simp
 have:=(Array.getElem?_eq_some_iff.1 (hC _ _ hlast)).1;have hl:=hr.len;simp at hl;omega;obtain ⟨v,a,b,c⟩:=hr.cell m j hm hj;refine ⟨v,?_,b.mono (Qe0 _ hid),c⟩;rw [show (0:Nat)+m*[some IntKind.u8].length+j=m*[some IntKind.u8].length+j by omega];exact hC _ _ a
theorem Qbbg {hp hp':Hp} (hH:HRel ng g hp.heap w) (hρ:ERel g ng t ρ) {src dst:TypeId} {x:Operand} {r:AVal} (h:Qlq P ng t src dst x hp=some (r,hp')):
  ∃v w' g',(convert src dst (ρ x)).run P w=.ok v w'/\VRel g' r v/\After P g ng hp hp' w w' g':=by
 unfold Qlq at h;split at h;rename_i e hs hd;split at h;rename_i i cl he hx hl;split at h;rename_i n hb hn;split at h;rename_i hle;cases h;have hcl:cl=[some .u8]:=by
  unfold Qjq at hb;split at hb;rfl;cases hb
 subst hcl;have h1:=hρ x _ hx;have hsig:=hH.sig;have hlen:=Qmm hsig hn;have hn1:den g.sig (Qch ng n)=.int .i64 ((g.sig.s i).size:Nat):=by rw [Qud hsig,hlen]
 have hsz:(g.sig.s i).size<=1000000:=by
  have:=Qco hsig hle hlen (show den g.sig (.int .i64 1000000)=.int .i64 1000000 from rfl);omega
 have hu:ρ x=.string (g.sig.s i):=by cases hh:ρ x<;>rw [hh] at h1<;>cases h1;rfl
 have hrun:=run_bytes_of_string (P:=P) w src dst e (g.sig.s i) hs hd he;have hge:=grownCap_ge w (g.sig.s i).size 0 e;have hmx:=grownCap_le_maxLen w (g.sig.s i).size 0 e (by unfold maxLen;omega);have hcs:(bytesRow (g.sig.s i) (grownCap w (g.sig.s i).size 0 e)).size=grownCap w (g.sig.s i).size 0 e:=by
  have:(g.sig.s i).data.size=(g.sig.s i).size:=rfl;simp [bytesRow,this];omega
 have hC: ∀(k:Nat) (v:Value),((g.sig.s i).toList.map fun b=>Value.int .u8 b.toNat)[k]? =some v->(bytesRow (g.sig.s i) (grownCap w (g.sig.s i).size 0 e))[k]? =some v:=by
  intro k v hv;have ht:(g.sig.s i).toList=(g.sig.s i).data.toList:=by rw [ByteArray.toList_eq]
  rw [ht,List.getElem?_map] at hv;unfold bytesRow;have hk:k<(g.sig.s i).data.toList.length:=by
   rcases Nat.lt_or_ge k (g.sig.s i).data.toList.length with h|h;exact h;rw [List.getElem?_eq_none h] at hv;cases hv
  rw [Array.getElem?_append_left (by simpa using hk),Array.getElem?_map];simpa using hv
 obtain ⟨g2,g3⟩:=HRel.newLstF hH (c:=.syms i) (n:=Qch ng n) (e:=e) (C:=bytesRow (g.sig.s i) (grownCap w (g.sig.s i).size 0 e)) (fr:=((bytesRow (g.sig.s i) (grownCap w (g.sig.s i).size 0 e)).size,(bytesRow (g.sig.s i) (grownCap w (g.sig.s i).size 0 e)).size+1)) rfl hn1 (Qxk (g:=g) (g.sig.s i)) hC (FrOk.behind fun v hv=>Qy5 v hv);refine ⟨_,_,_,by rw [hu];exact hrun,?_,g2,g3⟩;refine .lsl _ _ false _ _ 0 (g.sig.s i).size _ _ rfl hn1 ⟨hge,by unfold maxLen at hmx;omega⟩ (fun h=>by cases h) (fun _=>⟨_,Q4 _ _ _,by simp,by rw [hcs];simp⟩);cases h;cases h;cases h;cases h
end
end Go.Ev
namespace Go.Ev
set_option linter.unusedVariables false
set_option linter.unusedSimpArgs false
set_option linter.unnecessarySimpa false
def Qh5 (P:Program) (ty:TypeId) (m k v:AVal) (hp:Hp):Option Hp:=
 match P.underlying ty with
 |some (.map kt _)=>match P.underlying kt with
  |some d=>match keyA d k,m with
   |some _,.map b=>match hp.heap[b]? with
    |some (.map l)=>match Qfa d k l with
     |some none=>some ⟨hp.heap.set b (.map (l++[(k,v)])),b::hp.log⟩
     |_=>none
    |_=>none
   |_,_=>none
  |none=>none
 |_=>none
def Qr7 (P:Program) (ty:TypeId) (b:Nat) (hp:Hp):Option (AVal×Hp):=none
def effA (P:Program) (ng:Cx) (t:Tm) (op:Op) (hp:Hp):Option (AVal×Hp):=
 match op with
 |.store ty a x=>match ev ng t a,ev ng t x with
  |some av,some xv=>match Qgp P ty av xv hp with
   |some hp'=>some (Qcm,hp')
   |none=>match Qsp P ng ty av xv hp with
    |some hp'=>some (Qcm,hp')
    |none=>none
  |_,_=>none
 |.makeMap _ none=>some (.map hp.heap.length,⟨hp.heap++[.map []],hp.log⟩)
 |.insert ty m k x=>match ev ng t m,ev ng t k,ev ng t x with
  |some mv,some kv,some xv=>match Qh5 P ty mv kv xv hp with
   |some hp'=>some (Qcm,hp')
   |none=>none
  |_,_,_=>none
 |.mapUpdate ty m k x=>match ev ng t m,ev ng t k,ev ng t x with
  |some mv,some kv,some xv=>match Qh5 P ty mv kv xv hp with
   |some hp'=>some (Qcm,hp')
   |none=>none
  |_,_,_=>none
 |.range ty x=>match ev ng t x with
  |some (.map b)=>Qr7 P ty b hp
  |_=>none
 |.convert src dst x=>match Nat.beq src dst,P.underlying src with
  |true,some (.slice e)=>match P.underlying e,ev ng t x with
   |some (.int .u8),some (.slice b off len cap ex)=>match hp.heap[b]? with
    |some (.cells _ _)=>some (.slice b off len cap ex,⟨hp.heap,b::hp.log⟩)
    |_=>none
   |_,_=>none
  |_,_=>Qlq P ng t src dst x hp
 |.call c=>match c.callee with
  |.builtin .append=>match evL ng t c.args.toList with
   |some l=>match Qlh P ng c.argTypes.toList l hp with
    |some r=>some r
    |none=>match Qlg P c.argTypes.toList l hp with
     |some r=>some r
     |none=>Qli P c.argTypes.toList l hp
   |none=>none
  |.builtin .copy=>match evL ng t c.args.toList with
   |some l=>Qpe P ng c.argTypes.toList l hp
   |none=>none
  |_=>none
 |_=>none
inductive Out where
 |val (v:AVal)
 |pan (v:AVal)
inductive Ex where
 |normal
 |exit (id:Nat)
 |ret
 |pan (v:AVal)
def Qkw (a b:LoopA):Prop:=b.t=a.t/\b.params=a.params/\b.assign=a.assign/\b.body=a.body/\b.dfr=a.dfr
structure Touch (hp hp':Hp):Prop where
 len:hp.heap.length<=hp'.heap.length
 log: ∃pre,hp'.log=pre++hp.log/\ ∀i,i<hp.heap.length->i∉pre->hp'.heap[i]? =hp.heap[i]?
 live: ∀i,i<hp.heap.length->Live hp'.heap i->Live hp.heap i
 loops: ∀(i:Nat) (la:LoopA),i<hp.heap.length->hp'.heap[i]? =some (Blk.loop la)-> ∃l0,hp.heap[i]? =some (Blk.loop l0)/\Qkw l0 la
theorem Touch.refl (hp:Hp):Touch hp hp:=⟨Nat.le_refl _,⟨[],by simp,fun _ _ _=>rfl⟩,fun _ _ h=>h,fun _ la _ h=>⟨la,h,rfl,rfl,rfl,rfl,rfl⟩⟩
theorem Touch.trans {a b c:Hp} (h:Touch a b) (h':Touch b c):Touch a c:=by
 obtain ⟨p,hp,h1⟩:=h.log;obtain ⟨q,hq,h2⟩:=h'.log;refine ⟨Nat.le_trans h.len h'.len,⟨q++p,by rw [hq,hp,List.append_assoc],fun i hi hn=> ?_⟩,fun i hi hl=>h.live i hi (h'.live i (Nat.lt_of_lt_of_le hi h.len) hl),fun i lc hi hl=> ?_⟩;simp only [List.mem_append,not_or] at hn;exact (h2 i (Nat.lt_of_lt_of_le hi h.len) hn.1).trans (h1 i hi hn.2);obtain ⟨lb,hb,f1,f2,f3,f4,f5⟩:=h'.loops i lc (Nat.lt_of_lt_of_le hi h.len) hl;obtain ⟨la,ha,e1,e2,e3,e4,e5⟩:=h.loops i lb hi hb;exact ⟨la,ha,f1.trans e1,f2.trans e2,f3.trans e3,f4.trans e4,f5.trans e5⟩
def Qla (g:Inj) (o:Out) (e:Ending):Prop:=
 match o with
 |.val v=> ∃u,e=.returned u/\VRel g v u
 |.pan v=> ∃u,e=.panicked [{v:=u,recovered:=false}]/\VRel g v u
structure CallP (P:Program) (ng:Cx) (f:FuncId) (args:List AVal) (hp:Hp) (o:Out) (hp':Hp):Prop where
 touch:Touch hp hp'
 calls: ∀g w args',HRel ng g hp.heap w->LRel g args args'.toList->Calls P f args' w fun e w'=> ∃g',Qla g' o e/\HRel ng g' hp'.heap w'/\Ext g hp.heap w g' hp'.heap w'
def Qb2 (ng:Cx) (ops:List Oper) (t:Tm) (o:Oper):Option Bool:=
 match o.guard with
 |none=>some true
 |some (j,want)=>match ops[j]? with
  |none=>some false
  |some q=>match q.dst with
   |none=>some false
   |some d=>match t.get d with
    |none=>none
    |some v=>match Qch ng v with
     |.bool b=>some (b==want)
     |.symb _=>none
     |.junk=>none
     |_=>some false
def putA (t:Tm) (d:Option Tmp) (v:AVal):Tm:=
 match d with
 |some d=>match t with
  |⟨n,tr,df⟩=>⟨n,tr.put d v,df⟩
 |none=>t
inductive PlaceA where
 |val (v:AVal)
 |var (b off:Nat)
def Qg5 (P:Program):List FieldStep->TypeId->PlaceA->Option (TypeId×PlaceA)
 |[],t,x=>some (t,x)
 |s::rest,_,x=>match P.underlying s.struct with
  |some (.struct fields)=>match fields[s.index]? with
   |some f=>match P.underlying f.type,P.info? f.type with
    |some _,some i=>match s.deref with
     |true=>match x with
      |.val (.ptr b off)=>if i.size=0 then none else Qg5 P rest f.type (.var b (off+f.offset))
      |_=>none
     |false=>match x with
      |.var b off=>if i.size=0 then none else Qg5 P rest f.type (.var b (off+f.offset))
      |.val (.agg cs)=>match Qbt P f.type cs f.offset with
       |some v=>Qg5 P rest f.type (.val v)
       |none=>none
      |_=>none
    |_,_=>none
   |none=>none
  |_=>none
def Qr9 (P:Program) (xt:TypeId) (x:PlaceA) (pr:Bool):Option AVal:=
 match P.underlying xt with
 |some (.pointer _)=>match pr,x with
  |true,.val v=>some v
  |_,_=>none
 |some _=>match pr,x with
  |true,.var b off=>some (.ptr b off)
  |false,.val v=>some v
  |_,_=>none
 |none=>none
def Qig (P:Program):Nat->TypeId->AVal->String->Option (FuncId×AVal)
 |0,_,_,_=>none
 |n+1,t,v,name=>match P.info? t with
  |some info=>match info.methods.find? (·.name==name) with
   |some m=>match Qg5 P m.path.toList t (.val v) with
    |some (xt,x)=>match m.func with
     |some (f,pr)=>match Qr9 P xt x pr with
      |some r=>some (f,r)
      |none=>none
     |none=>match x with
      |.val (.iface t' v')=>Qig P n t' v' name
      |_=>none
    |none=>none
   |none=>none
  |none=>none
def Qfx (P:Program) (k:FuncId) (args:List AVal):Option (FuncId×List AVal):=
 match P.funcs[k]? with
 |some fn=>if fn.body.isSome=true/\ ¬(fn.name== "runtime.NumGoroutine")=true then some (k,args) else none
 |none=>none
def Qkr (P:Program) (ng:Cx) (t:Tm) (c:Call):Option (FuncId×List AVal):=
 match c.callee with
 |.value f=>match ev ng t f,evL ng t c.args.toList with
  |some (.func (.func k) first cap),some l=>Qfx P k (first++l++cap)
  |some (.func (.via ty path k pr) first _),some l=>match first++l with
   |x::rest=>match Qg5 P path.toList ty (.val x) with
    |some (xt,y)=>match Qr9 P xt y pr with
     |some r=>Qfx P k (r::rest)
     |none=>none
    |none=>none
   |[]=>none
  |some (.func (.method name) first _),some l=>match first++l with
   |.iface ty v::rest=>match Qig P (P.types.size+Made.depth) ty v name with
    |some (k,r)=>Qfx P k (r::rest)
    |none=>none
   |_=>none
  |_,_=>none
 |.invoke x name=>match ev ng t x,evL ng t c.args.toList with
  |some (.iface ty v),some l=>match Qig P (P.types.size+Made.depth) ty v name with
   |some (k,r)=>Qfx P k (r::l)
   |none=>none
  |_,_=>none
 |_=>none
inductive Step (P:Program) (ng:Cx) (ops:List Oper) (o:Oper) (t:Tm) (hp:Hp):AVal->Hp->Prop
 |skip:Qb2 ng ops t o=some false->Step P ng ops o t hp Qcm hp
 |pure (v:AVal):Qb2 ng ops t o=some true->Qgl P ng t o.op=some v->Step P ng ops o t hp v hp
 |load (v:AVal) (b:Option Nat):Qb2 ng ops t o=some true->Qcv P ng t o.op hp.heap=some (v,b)->Step P ng ops o t hp v hp
 |fresh (c:List AVal) (e:TypeId) (m:Mk):Qb2 ng ops t o=some true->Qf3 P ng t o.op=some (c,e,m)->Step P ng ops o t hp (m.val hp.heap.length) ⟨hp.heap++[.cells c e],hp.log⟩
 |eff (v:AVal) (hp':Hp):Qb2 ng ops t o=some true->effA P ng t o.op hp=some (v,hp')->Step P ng ops o t hp v hp'
 |call (c:Call) (f:FuncId) (args:List AVal) (v:AVal) (hp':Hp):Qb2 ng ops t o=some true->o.op=.call c->Qkr P ng t c=some (f,args)->CallP P ng f args hp (.val v) hp'->Step P ng ops o t hp v hp'
section
variable {P : Program} {g : Inj} {ng : Cx} {t : Tm} {ρ : Operand -> Value} {H : List Blk} {w : World} {hp hp' : Hp}
theorem Qbag (hH:HRel ng g hp.heap w) {ts:Array TypeId} {ty:TypeId} {l:List AVal} {m:Array Value} {r:AVal} (h:Qlg P ts.toList l hp=some (r,hp')) (hl:LRel g l m.toList):
  ∃v w' g',(Builtin.append_ ts ty m).run P w=.ok v w'/\VRel g' r v/\After P g ng hp hp' w w' g':=by
 unfold Qlg at h;split at h
 ·rename_i tt xt s x e1
  obtain ⟨ts⟩:=ts;obtain ⟨m⟩:=m;simp at e1;subst e1;cases hl with
  |cons _ su _ _ hs hl=>cases hl with
   |cons _ xu _ _ hx hl=>
    cases hl;split at h;rename_i e dx hu hxu;split at h;rename_i ie z xl hie hz hxl;split at h;rename_i hc;split at h;rename_i cs hcs;obtain ⟨vs,k1,k2,k3,k4,k5⟩:=Qod (P:=P) hH hcs hx (fun hh=>Qbd1 hxl hh);exact Qbak hH hu hxu hc.1 hie hz hc.2.1 hc.2.2.1 hc.2.2.2 (Qbd2 hxl hx) k1 k2 k3 k4 k5 h hs;cases h;cases h;cases h;cases h
 cases h
theorem Qbkb {es:Array MapEntry} {cl:Nat} {k v:Value} (h:(es.toList.map (·.born)).Nodup) (h': ∀e∈es.toList,e.born<cl):((es.push {key:=k,val:=v,born:=cl}).toList.map (·.born)).Nodup:=by
 simp only [Array.toList_push,List.map_append,List.map_cons,List.map_nil];rw [List.nodup_append];refine ⟨h,by simp,?_⟩;intro a ha b hb;simp only [List.mem_map,List.mem_singleton] at ha hb;obtain ⟨e,he,rfl⟩:=ha;have:=h' e he;omega
theorem Qbjl {es:Array MapEntry} {cl:Nat} {k v:Value} (h': ∀e∈es.toList,e.born<cl): ∀e∈(es.push {key:=k,val:=v,born:=cl}).toList,e.born<cl+1:=by
 intro e he;simp only [Array.toList_push,List.mem_append,List.mem_singleton] at he;rcases he with he|rfl
 have:=h' e he;omega;simp
theorem Q1t (hH:HRel ng g hp.heap w) {ty:TypeId} {m k v:AVal} {um uk uv:Value} (h:Qh5 P ty m k v hp=some hp') (hm:VRel g m um) (hk:VRel g k uk) (hv:VRel g v uv):
  ∃w',(Instr.mapUpdate ty um uk uv).run P w=.ok () w'/\After P g ng hp hp' w w' g:=by
 unfold Qh5 at h;split at h;rename_i kt elem hty;split at h;rename_i d hd;split at h
 ·rename_i kv b hkv
  obtain ⟨i1,i2⟩:=Quw (g:=g) hkv;have hq:=i2 _ hk;subst hq;cases hm with
  |map _ L hL=>
  split at h;rename_i l hb;obtain ⟨M,hM,es,cl,es',h1,h2,h3,h4,h5⟩:=hH.blk b _ hb (by simp);rw [hL] at hM;cases hM;split at h;rename_i hf;cases h;rcases Qbcw hkv hf h3 h2 with ⟨_,hrun⟩|⟨v',j,y,hv',_⟩
  have hlt:L.blk<w.heap.size:=(Array.getElem?_eq_some_iff.1 h1).1;obtain ⟨s1,s2⟩:=MapKept.heap_set (o':=.map (es.push {key:=uk,val:=uv,born:=cl}) (cl+1)) h1;have hB:BRel g {w with heap:=w.heap.setIfInBounds L.blk (.map (es.push {key:=uk,val:=uv,born:=cl}) (cl+1))} (.map (l++[(k,v)])) L:=
   ⟨_,_,es'++[{key:=uk,val:=uv,born:=cl}],s1,by simpa using h2.append_right _,h3.snoc hk hv,Qbkb h4 h5,Qbjl h5⟩
  have hW:Wr L.blk w {w with heap:=w.heap.setIfInBounds L.blk (.map (es.push {key:=uk,val:=uv,born:=cl}) (cl+1))}:=⟨by simp,fun k' hk'=>s2 k' hk',rfl,rfl,rfl⟩;obtain ⟨r1,r2⟩:=HRel.writeK hH ⟨_,hb,by simp⟩ hL hW hB;refine ⟨_,?_,⟨r1,r2⟩⟩;simp [Instr.mapUpdate,run_underlying hty,MapKept.run_getObj_map h1,MapKept.run_checkKey hd i1,MapKept.run_findKey hd hrun,MapKept.run_setObj_map _ h1,Result.andThen];cases hv';cases h;cases h
 cases h;cases h;cases h
theorem Qbjm (hH:HRel ng g hp.heap w): ∃g',VRel g' (.map hp.heap.length) (.map (some w.heap.size))/\After P g ng hp ⟨hp.heap++[.map []],hp.log⟩ w (w.alloc (.map #[] 0)) g':=by
 have hid:g hp.heap.length=none:=by
  cases hg:g hp.heap.length with
  |none=>rfl
  |some M=>have:=(hH.dom _ M hg).1;omega
 have hng:ng.n<=hp.heap.length:=by
  rcases Nat.lt_or_ge hp.heap.length ng.n with h9|h9;obtain ⟨L,hL,_⟩:=hH.glob _ h9;rw [hid] at hL;cases hL;exact h9
 have:=HRel.allocK hH (w0:=w) (H':=hp.heap++[.map []]) (k:=.map []) (O:=.map #[] 0) (n:=0) hid hng rfl rfl rfl rfl (by simp) (by
  intro j hj;rcases Nat.lt_or_ge j hp.heap.length with h9|h9
  rw [List.getElem?_append_left h9];rw [List.getElem?_append_right h9,List.getElem?_eq_none h9];have:j-hp.heap.length≠0:=by omega
  simp [this]) (by simp) (.inl (Nat.le_refl _)) (fun hnew=>⟨_,_,[],hnew,by simp,.nil,by simp,by simp⟩)
 exact ⟨_,.map _ _ (Q4 _ _ _),this.1,this.2 (Nat.le_refl _)⟩
theorem Qbla (hH:HRel ng g hp.heap w) {ty:TypeId} {b:Nat} {r:AVal} {u:Value} (h:Qr7 P ty b hp=some (r,hp')) (hm:VRel g (.map b) u):
  ∃v w' g',(Instr.range ty u).run P w=.ok v w'/\VRel g' r v/\After P g ng hp hp' w w' g':=by
 unfold Qr7 at h;cases h
theorem Qbc6 {w w':World} {b n:Nat} {C:Array Value} {e:TypeId} {fr:Nat×Nat} (h:w.heap[b]? =some (.cells C e fr)) (hw:w'=w.freeze {block:=b,off:=n} 1):
  w'.heap[b]? =some (.cells C e (if fr.1==fr.2 then (n,n+1) else (min fr.1 n,max fr.2 (n+1))))/\Wr b w w':=by
 subst hw;obtain ⟨lo,hi⟩:=fr;unfold World.freeze;rw [if_neg (by decide)];refine ⟨?_,by simp,fun k hk=> ?_,rfl,rfl,rfl⟩;simp only [Array.getElem?_modify,if_true,h,Option.map_some];simp only [Array.getElem?_modify,if_neg (Ne.symm hk)]
theorem Qbbz (hH:HRel ng g hp.heap w) (hρ:ERel g ng t ρ) {o:Oper} {r:AVal} (h:effA P ng t o.op hp=some (r,hp')):
  ∃v w' g',((execOp ρ o).run P w=.ok (.value v) w'\/((execOp ρ o).run P w=.ok .skip w'/\v=undef))/\VRel g' r v/\After P g ng hp hp' w w' g':=by
 obtain ⟨dst,op,type,pos,after,guard⟩:=o;simp only at h;unfold effA at h;split at h;rename_i ty a x;split at h;rename_i av xv ha hx;split at h;rename_i hp2 hs;cases h;obtain ⟨w',h1,h2,h3⟩:=Q89 (P:=P) hH hs (hρ a _ ha) (hρ x _ hx);exact ⟨undef,w',g,.inr ⟨by simp [execOp,h1],rfl⟩,.tuple _ _ .nil,h2,h3⟩;split at h;rename_i hp2 hs;cases h;obtain ⟨w',h1,h2,h3⟩:=Qbns (P:=P) hH hs (hρ a _ ha) (hρ x _ hx);exact ⟨undef,w',g,.inr ⟨by simp [execOp,h1],rfl⟩,.tuple _ _ .nil,h2,h3⟩;cases h;cases h;cases h;obtain ⟨g',h1,h2⟩:=Qbjm (P:=P) hH;exact ⟨_,_,g',.inl rfl,h1,h2⟩;rename_i ty m k x;split at h;rename_i mv kv xv hm hk hx;split at h;rename_i hp2 hs;cases h;obtain ⟨w',h1,h2⟩:=Q1t (P:=P) hH hs (hρ m _ hm) (hρ k _ hk) (hρ x _ hx);exact ⟨undef,w',g,.inr ⟨by simp [execOp,h1],rfl⟩,.tuple _ _ .nil,h2⟩;cases h;cases h;rename_i ty m k x;split at h;rename_i mv kv xv hm hk hx;split at h;rename_i hp2 hs;cases h;obtain ⟨w',h1,h2⟩:=Q1t (P:=P) hH hs (hρ m _ hm) (hρ k _ hk) (hρ x _ hx);exact ⟨undef,w',g,.inr ⟨by simp [execOp,h1],rfl⟩,.tuple _ _ .nil,h2⟩;cases h;cases h;rename_i ty x;split at h;rename_i b hb;obtain ⟨v,w',g',h1,h2,h3⟩:=Qbla (P:=P) hH h (hρ x _ hb);exact ⟨v,w',g',.inl (by simp [execOp,h1]),h2,h3⟩;cases h;rename_i src dst x;split at h;rename_i e hsd hs;have hsd:=Nat.eq_of_beq_eq_true hsd;subst hsd;split at h;rename_i b off len cap ex he hx;split at h;rename_i c e' hb;cases h;have hv:=hρ x _ hx;cases hu:ρ x<;>rw [hu] at hv<;>cases hv;rename_i o' L hL h0 h1 h2
 obtain ⟨M,hM,C,fr,k1,k2,k3,k4,k5⟩:=hH.blk b _ hb (by simp);rw [hL] at hM;cases hM;have hsh:w.shape? L.blk=some (e',C.size):=by simp [World.shape?,k1]
 obtain ⟨w',hw'⟩: ∃w',w'=w.freeze {block:=L.blk,off:=C.size} 1:=⟨_,rfl⟩;have hfz:=Qbc6 k1 hw';have hrun: ∀cap0,(convert src src (.slice (some ⟨L.blk,L.dl+o',none⟩) len cap0)).run P w=.ok (.slice (some ⟨L.blk,L.dl+o',none⟩) len cap0) w':=by
  intro cap0;rw [hw'];simp [convert,run_underlying hs,run_underlying he,markStringish,hsh]
 obtain ⟨q1,q2⟩:=HRel.writeK hH (k':=.cells c e') ⟨_,hb,by simp⟩ hL hfz.2 ⟨C,_,hfz.1,k2,k3.freeze,k4,k5⟩;have hset:hp.heap.set b (.cells c e')=hp.heap:=by
  apply List.ext_getElem?;intro m;by_cases hm:m=b;subst hm;rw [List.getElem?_set_self (List.getElem?_eq_some_iff.1 hb).1,hb];rw [List.getElem?_set_ne (Ne.symm hm)]
 rw [hset] at q1 q2;exact ⟨_,w',g,.inl (by simp only [execOp,hu,hrun,Sem.run_bind,Result.andThen_ok,Sem.run_pure]),.slice b off len cap ex o' _ L hL h0 h1 h2,q1,q2⟩;cases h;cases h;obtain ⟨v,w',g',c1,c2,c3⟩:=Qbbg hH hρ h;exact ⟨v,w',g',.inl (by simp only [execOp,c1,Sem.run_bind,Result.andThen_ok,Sem.run_pure]),c2,c3⟩;rename_i c;split at h;rename_i hc;split at h;rename_i l hl;split at h;rename_i q hq;cases h;obtain ⟨v,w',g',h1,h2,h3⟩:=Qbai (P:=P) (ty:=type) (m:=c.args.map ρ) hH hq (by simpa using Qb9 hρ _ _ hl);exact ⟨v,w',g',.inl (by simp [execOp,resolve,hc,invoke,builtin,h1]),h2,h3⟩;split at h;rename_i q hq;cases h;obtain ⟨v,w',g',h1,h2,h3⟩:=Qbag (P:=P) (ty:=type) (m:=c.args.map ρ) hH hq (by simpa using Qb9 hρ _ _ hl);exact ⟨v,w',g',.inl (by simp [execOp,resolve,hc,invoke,builtin,h1]),h2,h3⟩;obtain ⟨v,w',g',h1,h2,h3⟩:=Qbal (P:=P) (ty:=type) (m:=c.args.map ρ) hH h (by simpa using Qb9 hρ _ _ hl);exact ⟨v,w',g',.inl (by simp [execOp,resolve,hc,invoke,builtin,h1]),h2,h3⟩;cases h;rename_i hc;split at h;rename_i l hl;obtain ⟨v,w',h1,h2,h3⟩:=Qbbi (P:=P) (ty:=type) (m:=c.args.map ρ) hH h (by simpa using Qb9 hρ _ _ hl);exact ⟨v,w',g,.inl (by simp [execOp,resolve,hc,invoke,builtin,h1]),h2,h3⟩;cases h;cases h;cases h
theorem Qel {hp:Hp} {b:Nat} {k:Blk} (hb:Live hp.heap b) (hl: ∀la:LoopA,k=Blk.loop la-> ∃l0,hp.heap[b]? =some (Blk.loop l0)/\Qkw l0 la):Touch hp ⟨hp.heap.set b k,b::hp.log⟩:=
 ⟨by simp,⟨[b],rfl,fun i _ hn=>by simp at hn;exact List.getElem?_set_ne (fun e=>hn e.symm)⟩,fun i _ ⟨k',hk,hne⟩=>by
  simp only [List.getElem?_set] at hk;split at hk;rename_i hbi;subst hbi;exact hb;exact ⟨k',hk,hne⟩,fun i la hi hla=>by
  simp only [List.getElem?_set] at hla;split at hla;rename_i hbi;subst hbi;split at hla;exact hl la (Option.some.inj hla);rename_i h9;exact absurd hi h9;exact ⟨la,hla,rfl,rfl,rfl,rfl,rfl⟩⟩
theorem Qsk {hp:Hp} {b:Nat} {k:Blk} {c:List AVal} {e:TypeId} (hb:hp.heap[b]? =some (.cells c e)) (hk: ∀la:LoopA,k≠Blk.loop la:=by intro la h;cases h):Touch hp ⟨hp.heap.set b k,b::hp.log⟩:=Qel ⟨_,hb,by simp⟩ (fun la h=>absurd h (hk la))
theorem Q1u {ty:TypeId} {m k v:AVal} (h:Qh5 P ty m k v hp=some hp'):Touch hp hp':=by
 unfold Qh5 at h;split at h;split at h;split at h;split at h;rename_i l hb;split at h;cases h;exact Qel ⟨_,hb,by simp⟩ (fun la h=>by cases h);cases h;cases h;cases h;cases h;cases h
theorem Qfu {hp:Hp} {k:Blk}:Touch hp ⟨hp.heap++[k],hp.log⟩:=
 ⟨by simp,⟨[],rfl,fun i hi _=>List.getElem?_append_left hi⟩,fun i hi ⟨k',hk,hne⟩=>⟨k',by simpa only [List.getElem?_append_left hi] using hk,hne⟩,fun i la hi hl=>⟨la,by simpa only [List.getElem?_append_left hi] using hl,rfl,rfl,rfl,rfl,rfl⟩⟩
theorem Qbbh {P:Program} {ng:Cx} {t:Tm} {hp hp':Hp} {src dst:TypeId} {x:Operand} {r:AVal} (h:Qlq P ng t src dst x hp=some (r,hp')):Touch hp hp':=by
 unfold Qlq at h;split at h;split at h;split at h;split at h;cases h;exact Qfu;cases h;cases h;cases h;cases h
theorem Qbah {P:Program} {ts:List TypeId} {l:List AVal} {hp hp':Hp} {r:AVal} (h:Qlg P ts l hp=some (r,hp')):Touch hp hp':=by
 unfold Qlg at h;split at h;split at h;split at h;split at h;split at h;unfold Qo3 at h;split at h;split at h;cases h;exact Touch.refl _;split at h;cases h;exact Qfu;cases h;split at h;split at h;cases h;exact Touch.refl _;split at h;split at h;cases h;exact Qsk (by assumption);cases h;cases h;split at h;split at h;split at h;cases h;exact Qfu;split at h;split at h;cases h;exact Touch.trans (Qsk (by assumption)) Qfu;cases h;cases h;cases h;cases h;cases h;cases h;cases h;cases h;cases h;cases h
theorem Qbbw {ng:Cx} {cl:List (Option IntKind)} {e:TypeId} {s dc dn:AVal} {H:List Blk} {b:Nat} (h:dstL ng cl e s H=some (dc,dn,some b)): ∃k,H[b]? =some k/\Qf5 k=true:=by
 unfold dstL at h;split at h;cases h;split at h;split at h<;>cases h;cases h;split at h;split at h<;>cases h;split at h;rename_i hb;split at h;cases h;exact ⟨_,hb,rfl⟩;cases h;cases h;split at h;split at h;cases h;split at h;split at h<;>cases h;cases h;cases h;cases h
theorem Qbaj {P:Program} {ng:Cx} {ts:List TypeId} {l:List AVal} {hp hp':Hp} {r:AVal} (h:Qlh P ng ts l hp=some (r,hp')):Touch hp hp':=by
 unfold Qlh at h;split at h;split at h;split at h;split at h;split at h;rename_i dc dn old sc sn hd hs;split at h
 ·cases h
  cases old with
  |none=>exact Qfu
  |some b=>
   obtain ⟨k,hk,hl⟩:=Qbbw hd;exact Touch.trans (Qel (k:=.gone) ⟨k,hk,by rintro rfl;cases hl⟩ (fun la h=>by cases h)) Qfu
 cases h;cases h;cases h;cases h;cases h;cases h
theorem Qbam {P:Program} {ts:List TypeId} {l:List AVal} {hp hp':Hp} {r:AVal} (h:Qli P ts l hp=some (r,hp')):Touch hp hp':=by
 unfold Qli at h;cases h
theorem Qbb0 {o:Op} {r:AVal} (h:effA P ng t o hp=some (r,hp')):Touch hp hp':=by
 unfold effA at h;split at h;split at h;split at h;rename_i hs;cases h;unfold Qgp at hs;split at hs;split at hs;split at hs;split at hs;split at hs;cases hs;exact Qsk (by assumption);cases hs;cases hs;cases hs;cases hs;cases hs;split at h;rename_i hs;cases h;unfold Qsp at hs;split at hs;split at hs;split at hs;split at hs;cases hs;exact Qel ⟨_,by assumption,by simp⟩ (fun la h=>by cases h);cases hs;cases hs;cases hs;cases hs;cases h;cases h;cases h;exact Qfu;split at h;split at h;rename_i hs;cases h;exact Q1u hs;cases h;cases h;split at h;split at h;rename_i hs;cases h;exact Q1u hs;cases h;cases h;split at h;unfold Qr7 at h;cases h;cases h;split at h;split at h;split at h;cases h;exact ⟨Nat.le_refl _,⟨[_],rfl,fun _ _ _=>rfl⟩,fun _ _ h=>h,fun _ la _ h=>⟨la,h,rfl,rfl,rfl,rfl,rfl⟩⟩;cases h;cases h;exact Qbbh h;split at h;split at h;split at h;rename_i hq;cases h;exact Qbaj hq;split at h;rename_i hq;cases h;exact Qbah hq;exact Qbam h;cases h;split at h;unfold Qpe at h;cases h;cases h;cases h;cases h
theorem Step.touch {ops:List Oper} {o:Oper} {v:AVal} (h:Step P ng ops o t hp v hp'):Touch hp hp':=by
 cases h with
 |skip=>exact Touch.refl _
 |pure=>exact Touch.refl _
 |load=>exact Touch.refl _
 |fresh=>exact Qfu
 |eff _ _ _ h=>exact Qbb0 h
 |call _ _ _ _ _ _ _ _ h=>exact h.touch
theorem TRel.put {a:Act} (h:TRel g t a) (d:Option Tmp) {v:AVal} {u:Value} (hv:VRel g v u):TRel g (putA t d v) (a.put d u):=by
 cases d with
 |none=>exact h
 |some d=>
  refine ⟨by simpa [putA,Act.put] using h.1,?_⟩;intro i x hi;simp only [putA] at hi;have hlt:=Tm.get_lt hi;rcases TT.get_put _ _ _ _ _ (Tm.get_tr hi) with ⟨rfl,rfl⟩|⟨hdi,hi⟩
  refine ⟨u,?_,hv⟩;have hlt':=Nat.lt_of_lt_of_le hlt h.1;simp [Act.put,hlt'];obtain ⟨y,h1,h2⟩:=h.2 i x (Tm.get_of hi hlt);refine ⟨y,?_,h2⟩;simp only [Act.put];rw [Array.getElem?_setIfInBounds_ne (Ne.symm hdi)];exact h1
theorem Qdq {ops:Array Oper} {o:Oper} {a:Act} {b:Bool} (hg0:ng.Good g.sig) (h:Qb2 ng ops.toList t o=some b) (ht:TRel g t a):Region.wanted o (yielded ops a.tmps)=b:=by
 unfold Qb2 at h;unfold Region.wanted;split at h;rename_i hg;cases h;rw [hg];rename_i j want hg;rw [hg];simp only;unfold yielded;split at h;rename_i hj;cases h;have:ops[j]? =none:=by simpa using hj
 simp [this];rename_i q hq;have hq':ops[j]? =some q:=by simpa using hq
 split at h;rename_i hd;cases h;simp [hq',hd];rename_i d hd;split at h;cases h;rename_i v hv;obtain ⟨u,h1,h2⟩:=ht.2 d _ hv;have h2:=Qjk hg0 h2;simp only [hq',hd,Option.bind_some,h1];split at h;rename_i bb hb;cases h;rw [hb] at h2;cases h2;cases bb<;>cases want<;>rfl;cases h;cases h;rename_i hne hns hnj;cases h;generalize Qch ng v=x at h2 hne hns hnj;cases h2<;>first|rfl|(exact absurd rfl (hne _))|(exact absurd rfl (hns _))|(exact absurd rfl hnj)
theorem Qba4 {f:FuncId} {fn:Func} (hf:P.funcs[f]? =some fn) (hb:fn.body.isSome=true) (hn: ¬(fn.name== "runtime.NumGoroutine")=true) (args:Array Value) (w:World):
  (callFunc f args).run P w=.ok (.enter f args) w:=by
 have hb':fn.body.isNone=false:=by cases h:fn.body<;>simp [h] at hb⊢
 simp only [callFunc,Sem.run_bind,run_program,Result.andThen_ok,hf];rw [if_neg hn,hb'];simp
def PRel (g:Inj) (x:PlaceA) (y:Place):Prop:=
 match x,y with
 |.val v,.val u=>VRel g v u
 |.var b off,.var a=>VRel g (.ptr b off) (.pointer (some a))
 |_,_=>False
theorem Q0u {f:Field} {i:TypeInfo} {b off:Nat} {a:Addr} (hi:P.info? f.type=some i) (h0: ¬i.size=0) (ha:VRel g (.ptr b off) (.pointer (some a))):
  ∃a',(fieldPlace a f).run P w=.ok a' w/\VRel g (.ptr b (off+f.offset)) (.pointer (some a')):=by
 cases ha with
 |ptr _ _ L hL=>
  refine ⟨⟨L.blk,L.dl+(off+f.offset),none⟩,?_,.ptr _ _ L hL⟩;simp [fieldPlace,Qbg w hi,h0,Qbs,Nat.add_assoc]
theorem Ql8: ∀{l:List FieldStep} {t:TypeId} {x:PlaceA} {y:Place} {t':TypeId} {x':PlaceA},Qg5 P l t x=some (t',x')->PRel g x y->
  ∃y',(follow l t y).run P w=.ok (t',y') w/\PRel g x' y'
 |[],_,_,y,_,_,h,hy=>by simp only [Qg5] at h;cases h;exact ⟨y,by simp [follow],hy⟩
 |s::rest,t,x,y,t',x',h,hy=>by
  simp only [Qg5] at h;split at h;rename_i fields hu;split at h;rename_i f hf;split at h;rename_i d i hd hi;split at h;rename_i hs;split at h
  ·rename_i b off
   split at h;cases h;rename_i h0;cases y with
   |var a=>exact hy.elim
   |val u=>
    have hy':VRel g (.ptr b off) u:=hy;cases hy' with
    |ptr _ _ L hL=>
     obtain ⟨a',k1,k2⟩:=Q0u (P:=P) (w:=w) (f:=f) hi h0 (.ptr b off L hL);obtain ⟨y',k3,k4⟩:=Ql8 (y:=.var a') h k2;exact ⟨y',by simp [follow,run_underlying hu,hf,hs,Place.get,asAddr,k1,k3],k4⟩
  cases h;rename_i hs;split at h
  ·rename_i b off
   split at h;cases h;rename_i h0;cases y with
   |val a=>exact hy.elim
   |var a=>
    obtain ⟨a',k1,k2⟩:=Q0u (P:=P) (w:=w) (f:=f) hi h0 hy;obtain ⟨y',k3,k4⟩:=Ql8 (y:=.var a') h k2;exact ⟨y',by simp [follow,run_underlying hu,hf,hs,k1,k3],k4⟩
  rename_i cs;split at h
  ·rename_i v hv
   cases y with
   |var a=>exact hy.elim
   |val u=>
    have hy':VRel g (.agg cs) u:=hy;cases hy' with
    |agg _ C hC=>
     obtain ⟨u',k1,k2⟩:=Qis (P:=P) w ⟨d,hd⟩ hv hC;obtain ⟨y',k3,k4⟩:=Ql8 (y:=.val u') h k2;exact ⟨y',by simp [follow,run_underlying hu,hf,hs,k1,k3],k4⟩
  cases h;cases h;cases h;cases h;cases h
theorem Q70 {xt:TypeId} {x:PlaceA} {y:Place} {pr:Bool} {r:AVal} (wr:Option String) (h:Qr9 P xt x pr=some r) (hy:PRel g x y):
  ∃u,(receiverAt xt y pr wr).run P w=.ok u w/\VRel g r u:=by
 unfold Qr9 at h;split at h;rename_i d hu;split at h
 ·cases h
  cases y with
  |var a=>exact hy.elim
  |val u=>exact ⟨u,by simp [receiverAt,run_underlying hu,Place.get],hy⟩
 cases h;rename_i d hne hu;split at h
 ·cases h
  cases y with
  |val a=>exact hy.elim
  |var a=>
   refine ⟨.pointer (some a),?_,hy⟩;cases d<;>first|exact absurd rfl (hne _)|simp [receiverAt,run_underlying hu]
 ·cases h
  cases y with
  |var a=>exact hy.elim
  |val u=>
   refine ⟨u,?_,hy⟩;cases d<;>first|exact absurd rfl (hne _)|simp [receiverAt,run_underlying hu,Place.get]
 cases h;cases h
theorem Q6i {name:String}: ∀{n:Nat} {t:TypeId} {v r:AVal} {u:Value} {f:FuncId},Qig P n t v name=some (f,r)->VRel g v u->
  ∃q,(method n t u name).run P w=.ok (f,q) w/\VRel g r q
 |0,_,_,_,_,_,h,_=>by simp [Qig] at h
 |n+1,t,v,r,u,f,h,hv=>by
  simp only [Qig] at h;split at h;rename_i info hi;split at h;rename_i m hm;split at h;rename_i xt x hf;obtain ⟨y,k1,k2⟩:=Ql8 (w:=w) (y:=.val u) hf hv;split at h;rename_i k pr hmf;split at h;rename_i r' hr;cases h;obtain ⟨q,k3,k4⟩:=Q70 (w:=w) (if m.path.isEmpty then some ((name.splitOn ".").getLastD name) else none) hr k2;refine ⟨q,?_,k4⟩;simp only [method,Sem.run_bind,typeInfo,run_program,Result.andThen_ok,hi,hm,k1,hmf,Sem.run_pure];rw [k3];rfl;cases h;rename_i hmf;split at h
  ·rename_i t' v'
   cases y with
   |var a=>exact k2.elim
   |val u'=>
    have k2':VRel g (.iface t' v') u':=k2;cases k2' with
    |iface _ _ q hq=>
     obtain ⟨q',k3,k4⟩:=Q6i h hq;refine ⟨q',?_,k4⟩;simp only [method,Sem.run_bind,typeInfo,run_program,Result.andThen_ok,hi,hm,k1,hmf,Sem.run_pure,Place.get];exact k3
  cases h;cases h;cases h;cases h
theorem Qpr {k f:FuncId} {args args':List AVal} (h:Qfx P k args=some (f,args')) (m:Array Value):(callFunc k m).run P w=.ok (.enter f m) w/\args'=args:=by
 unfold Qfx at h;split at h;rename_i fn hfn;split at h;rename_i hc;cases h;exact ⟨Qba4 hfn hc.1 hc.2 m w,rfl⟩;cases h;cases h
theorem Qy7 {name:String} {ty:TypeId} {v r:AVal} {u:Value} {k f:FuncId} {rest args':List AVal} {m:Array Value} (h:Qig P (P.types.size+Made.depth) ty v name=some (k,r)) (hv:VRel g v u)
  (he:Qfx P k (r::rest)=some (f,args')) (hm:LRel g rest m.toList): ∃q:Array Value,(callMethod (.iface ty u) name m).run P w=.ok (.enter f q) w/\LRel g args' q.toList:=by
 obtain ⟨q,k1,k2⟩:=Q6i (w:=w) h hv;obtain ⟨k3,rfl⟩:=Qpr (w:=w) he (#[q]++m);refine ⟨#[q]++m,?_,by simpa using LRel.cons _ _ _ _ k2 hm⟩;simp only [callMethod,Sem.run_bind,run_program,Result.andThen_ok,k1];exact k3
theorem Q78 {c:Call} {type:TypeId} {f:FuncId} {args:List AVal} (hρ:ERel g ng t ρ) (h:Qkr P ng t c=some (f,args)):
  ∃args':Array Value,(do let d<-resolve ρ c type;invoke d.target d.args:Sem Next).run P w=.ok (.enter f args') w/\LRel g args args'.toList:=by
 unfold Qkr at h;split at h;rename_i fo hc;split at h;rename_i k first cap l hf hl
 have h1:=hρ fo _ hf;cases hh:ρ fo<;>rw [hh] at h1<;>cases h1;rename_i first' cap' hfirst hcap;obtain ⟨k1,rfl⟩:=Qpr (w:=w) h (first'++c.args.map ρ++cap');refine ⟨first'++c.args.map ρ++cap',?_,?_⟩;simp [resolve,hc,hh,Deferred.ofValue,invoke] at k1⊢;exact k1;have:=(hfirst.append (Qb9 hρ _ _ hl)).append hcap;simpa using this;rename_i ty path k pr first cap l hf hl
 have h1:=hρ fo _ hf;cases hh:ρ fo<;>rw [hh] at h1<;>cases h1;rename_i first' cap' hfirst hcap;have hall:=hfirst.append (Qb9 hρ _ _ hl);split at h
 ·rename_i x rest hx
  rw [hx] at hall;have e1:first'.toList++c.args.toList.map ρ=(first'++c.args.map ρ).toList:=by simp
  cases hall2:(first'.toList++c.args.toList.map ρ) with
  |nil=>rw [hall2] at hall;cases hall
  |cons u us=>
   rw [hall2] at hall;cases hall with
   |cons _ _ _ _ hxu hrest=>
    split at h;rename_i xt y hfo;split at h;rename_i r hr;obtain ⟨y',k1,k2⟩:=Ql8 (w:=w) (y:=.val u) hfo hxu;obtain ⟨q,k3,k4⟩:=Q70 (w:=w) none hr k2;have e2:first'++c.args.map ρ=(u::us).toArray:=by rw [<-hall2];simp
    obtain ⟨k5,rfl⟩:=Qpr (w:=w) h (#[q]++us.toArray);refine ⟨#[q]++us.toArray,?_,by simpa using LRel.cons _ _ _ _ k4 hrest⟩;have e3:(u::us).toArray.extract 1 (us.length+1)=us.toArray:=by simp
    simp only [resolve,hc,hh,Deferred.ofValue,Sem.run_bind,Sem.run_pure,Result.andThen_ok,invoke,e2];simp only [List.getElem?_toArray,List.getElem?_cons_zero,receiverVia,Sem.run_bind,k1,Result.andThen_ok,k3];simpa using k5;cases h;cases h
 cases h;rename_i name first cap l hf hl
 have h1:=hρ fo _ hf;cases hh:ρ fo<;>rw [hh] at h1<;>cases h1;rename_i first' cap' hfirst hcap;have hall:=hfirst.append (Qb9 hρ _ _ hl);split at h
 ·rename_i ty v rest hx
  rw [hx] at hall;cases hall2:(first'.toList++c.args.toList.map ρ) with
  |nil=>rw [hall2] at hall;cases hall
  |cons u us=>
   rw [hall2] at hall;cases hall with
   |cons _ _ _ _ hxu hrest=>
    cases hxu with
    |iface _ _ v' hv'=>
    split at h;rename_i k r hm;obtain ⟨q,k1,k2⟩:=Qy7 (w:=w) (m:=us.toArray) hm hv' h (by simpa using hrest);have e2:first'++c.args.map ρ=(Value.iface ty v'::us).toArray:=by rw [<-hall2];simp
    refine ⟨q,?_,k2⟩;simp only [resolve,hc,hh,Deferred.ofValue,Sem.run_bind,Sem.run_pure,Result.andThen_ok,invoke,e2];simpa using k1;cases h
 cases h;cases h;rename_i x name hc;split at h;rename_i ty v l hx hl;split at h;rename_i k r hm;have h1:=hρ x _ hx;cases hh:ρ x<;>rw [hh] at h1<;>cases h1;rename_i v' hv';obtain ⟨q,k1,k2⟩:=Qy7 (w:=w) (m:=c.args.map ρ) hm hv' h (by simpa using Qb9 hρ _ _ hl);refine ⟨q,?_,k2⟩;have e1:(#[Value.iface ty v']++c.args.map ρ)[0]? =some (.iface ty v'):=by simp [Array.getElem?_append]
 have e2:(#[Value.iface ty v']++c.args.map ρ).extract 1 (#[Value.iface ty v']++c.args.map ρ).size=c.args.map ρ:=by
  apply Array.ext';simp;exact List.take_of_length_le (by simp)
 simp only [resolve,hc,hh,Sem.run_bind,Sem.run_pure,Result.andThen_ok,invoke,e1,e2];exact k1;cases h;cases h;cases h
def FR (r:Option Nat):Fence:={Fence.wide with round:=r}
theorem Qy9 {r:Option Nat} {n:Nat} {P:Program} {f:FuncId} {args:Array Value} {w:World} {R:Ending->World->Prop} (h:Calls P f args w R):CallsIn (FR r) n P f args w R:=
 (callsIn_wide.2 h:CallsIn Fence.wide n P f args w R)
theorem Qza {r:Option Nat} {n:Nat} {P:Program} {f:FuncId} {args:Array Value} {w:World} {R:Ending->World->Prop} (h:CallsIn (FR r) n P f args w R):Calls P f args w R:=
 callsIn_wide.1 (show CallsIn Fence.wide n P f args w R from h)
theorem Qbk7 {ops:Op} {v:AVal} (h:Qgl P ng t ops=some v) (c:Call):ops≠.defer c:=by
 rintro rfl;simp [Qgl] at h
theorem Qbjd {ops:Op} {v:AVal×Option Nat} {H:List Blk} (h:Qcv P ng t ops H=some v) (c:Call):ops≠.defer c:=by
 rintro rfl;simp [Qcv] at h
theorem Q1f {ops:Op} {v:List AVal×TypeId×Mk} (h:Qf3 P ng t ops=some v) (c:Call):ops≠.defer c:=by
 rintro rfl;simp [Qf3] at h
theorem Qbb1 {ops:Op} {v:AVal×Hp} {hp:Hp} (h:effA P ng t ops hp=some v) (c:Call):ops≠.defer c:=by
 rintro rfl;simp [effA] at h
theorem Step.wp {r:Option Nat} {ops:Array Oper} {o:Oper} {v:AVal} {a:Act} {K:Act->World->Prop} {Q:Exit->Act->World->Prop} (h:Step P ng ops.toList o t hp v hp') (hH:HRel ng g hp.heap w) (ht:TRel g t a)
  (hK: ∀g' u w',VRel g' v u->HRel ng g' hp'.heap w'->Ext g hp.heap w g' hp'.heap w'->K (a.put o.dst u) w'):
  if Region.wanted o (yielded ops a.tmps) then o.wpIn (FR r) 0 P a w K Q else (∀f,o.about P w a.eval=some f->(FR r).fn f)/\K (a.put o.dst undef) w:=by
 have hρ:ERel g ng t a.eval:=⟨fun x v hv=>ht.eval hH.sig hH.glob hv,hH.sig⟩;cases h with
 |skip hw=>rw [Qdq hH.sig hw ht];exact ⟨fun _ _=>trivial,hK g undef w (.tuple _ _ .nil) hH (Ext.refl _ _ _)⟩
 |pure v hw h=>
  rw [Qdq hH.sig hw ht,if_pos rfl];obtain ⟨u,h1,h2⟩:=Q7w (P:=P) w hρ h;refine ⟨fun _ _=>trivial,?_⟩;rw [Oper.semAt_eq _ _ _ (Qbk7 h),h1];exact hK g u w h2 hH (Ext.refl _ _ _)
 |load v b hw h=>
  rw [Qdq hH.sig hw ht,if_pos rfl];obtain ⟨u,h1,h2⟩:=Qbjb (P:=P) hH hρ h;refine ⟨fun _ _=>trivial,?_⟩;rw [Oper.semAt_eq _ _ _ (Qbjd h),h1];exact hK g u w h2 hH (Ext.refl _ _ _)
 |fresh c e m hw h=>
  rw [Qdq hH.sig hw ht,if_pos rfl];obtain ⟨u,C,fr,w0,hF⟩:=Q1e (P:=P) (g:=g) (w:=w) hρ h;refine ⟨fun _ _=>trivial,?_⟩;rw [Oper.semAt_eq _ _ _ (Q1f h),hF.run];have hid:g hp.heap.length=none:=by
   cases hg:g hp.heap.length with
   |none=>rfl
   |some M=>have:=(hH.dom _ M hg).1;omega
  have hng:ng.n<=hp.heap.length:=by
   rcases Nat.lt_or_ge hp.heap.length ng.n with h9|h9;obtain ⟨L,hL,_⟩:=hH.glob _ h9;rw [hid] at hL;cases hL;exact h9
  have:=HRel.alloc hH (H':=hp.heap++[.cells c e]) hid hng (c:=c) (e:=e) (C:=C) (fr:=fr) hF.heap hF.os hF.tape hF.output (by simp) (by
   intro j hj;rcases Nat.lt_or_ge j hp.heap.length with h9|h9
   rw [List.getElem?_append_left h9];rw [List.getElem?_append_right h9,List.getElem?_eq_none h9];have:j-hp.heap.length≠0:=by omega
   simp [this]) (by simp) (.inl (Nat.le_refl _)) hF.fr hF.len hF.rel
  exact hK _ u _ (hF.val _ _ (Q4 _ _ _)) this.1 (this.2 (Nat.le_refl _))
 |eff v _ hw h=>
  rw [Qdq hH.sig hw ht,if_pos rfl];obtain ⟨u,w',g',h1,h2,h3⟩:=Qbbz (P:=P) hH hρ h;refine ⟨fun _ _=>trivial,?_⟩;rw [Oper.semAt_eq _ _ _ (Qbb1 h)];rcases h1 with h1|⟨h1,rfl⟩
  rw [h1];exact hK g' u w' h2 h3.rel h3.ext;rw [h1];exact hK g' _ w' h2 h3.rel h3.ext
 |call c f args v _ hw hop hres hcall=>
  rw [Qdq hH.sig hw ht,if_pos rfl];obtain ⟨args',h1,h2⟩:=Q78 (P:=P) (w:=w) (type:=o.type) hρ hres;have h1':(execOp a.eval o).run P w=.ok (.enter f args') w:=by
   obtain ⟨dst,op,type,pos,after,guard⟩:=o;simp only at hop h1;subst hop;exact h1
  refine ⟨fun _ _=>trivial,?_⟩;rw [Oper.semAt_eq _ _ _ (by intro c';rw [hop];intro h;cases h),h1'];refine ⟨fun h=>(by cases h),Qy9 ((hcall.calls g w args' hH h2).mono ?_)⟩;rintro e w' ⟨g',⟨u,rfl,hu⟩,hH',hE⟩;exact hK g' u w' hu hH' hE
end
end Go.Ev
