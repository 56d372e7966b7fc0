/-
 Logs that are laid are read back.
 No conditions.
-/
import Derived.Test.YtelimhjceiamcaaDoorBLgt
namespace Go.Lgp
open Go.Ev Go.RowKit Go.Wbp
set_option linter.unusedVariables false
set_option linter.unusedSimpArgs false
theorem By.left {l m:List Int} (h:By (l++m)):By l:=fun x hx=>h x (List.mem_append_left _ hx)
theorem By.right {l m:List Int} (h:By (l++m)):By m:=fun x hx=>h x (List.mem_append_right _ hx)
theorem Qlf {W P x t:List Int} (hW:By W) (h:W=P++(x++t)):Has (bs W) P.length x:=by
 subst h
 exact Qbad hW.right.left hW.left hW.right.right
theorem at_of {W P t:List Int} {x:Int} (hW:By W) (h:W=P++(x::t)):bAt (bs W) P.length=x/\(P.length:Int)<(bs W).size:=by
 have g:=Qlf (x:=[x]) (t:=t) hW h
 have g2:=g.2.2 0 (by simp)
 have g3:=g.2.1
 simp only [List.length_cons,List.length_nil] at g3
 refine ⟨by simpa using g2,by omega⟩
theorem Qx1 {p q:List Int}:(bs (p++q)).extract 0 p.length=bs p:=by
 rw [<-Qc0]
 have:p.length=(bs p).size:=(Qc1 p).symm
 rw [this]
 apply ByteArray.ext
 simp
theorem Qn9: ∀(P:List Int) (d:En) (l:List En),∃t,encS P d l=P++t
 |P,_,[]=>⟨[],by simp [encS]⟩
 |P,d,x::l=>by
  obtain ⟨t,ht⟩:=Qn9 (P++entB d x++[sumL (P++entB d x)]) x l
  exact ⟨entB d x++[sumL (P++entB d x)]++t,by show encS _ x l=_;rw [ht];simp only [List.append_assoc]⟩
theorem Q6g {W P t:List Int} (hW:By W) (h:W=P++t):sumS ((bs W).extract 0 ((P.length:Int)).toNat)=sumL P:=by
 subst h
 rw [Int.toNat_natCast,Qx1,Qrh hW.left]
theorem Qyh {W P t:List Int} {last:En} {k r b:Int} (hW:By W) (h:W=P++(pbL (r-last.r)++pbL (b-last.b)++t)) (hl:LOk last) (h1:last.r<=r) (h2:r<=1099511627776) (h3:last.b<=b) (h4:b<=r) (h5:last.r<r\/(last.k<k/\(b=last.b\/k=255))):
  cntP (bs W) P.length last k=.ok (⟨r,b,k,0⟩,((P++pbL (r-last.r)++pbL (b-last.b)).length:Int)):=by
 obtain ⟨l1,l2,l3,l4⟩:=hl
 have g1:=Qvv (Qlf (P:=P) (x:=pbL (r-last.r)) (t:=pbL (b-last.b)++t) hW (by rw [h];simp only [List.append_assoc]))
 have g2:=Qvv (Qlf (P:=P++pbL (r-last.r)) (x:=pbL (b-last.b)) (t:=t) hW (by rw [h];simp only [List.append_assoc]))
 rw [show (r-last.r)%4611686018427387904=r-last.r by omega] at g1
 rw [show (b-last.b)%4611686018427387904=b-last.b by omega,List.length_append] at g2
 push_cast at g2
 have v1:(numL (bs W) P.length).getD 0 0=r-last.r:=by rw [g1];rfl
 have v2:(numL (bs W) P.length).getD 1 0=((pbL (r-last.r)).length:Int):=by rw [g1];rfl
 have v3:(numL (bs W) P.length).getD 2 0=0:=by rw [g1];rfl
 have hc:=Qdm (S:=bs W) (a:=P.length) (k:=k) (last:=last) v3 (by rw [v1];show last.r+min (r-last.r) 2199023255552<=1099511627776/\(0<r-last.r\/last.k<k);omega) (by rw [v2,g2];rfl) (by rw [v1,v2,g2];show last.b+min (b-last.b) 2199023255552<=last.r+min (r-last.r) 2199023255552/\(0<r-last.r\/b-last.b=0\/k=255);omega)
 rw [v1,v2,g2] at hc
 rw [hc]
 have e1:last.r+min (r-last.r) (2*most)=r:=by rw [Qnc];omega
 have e2:last.b+min (b-last.b) (2*most)=b:=by rw [Qnc];omega
 show Rd.ok ((⟨last.r+min (r-last.r) (2*most),last.b+min (b-last.b) (2*most),k,0⟩:En),(P.length:Int)+((pbL (r-last.r)).length:Int)+((pbL (b-last.b)).length:Int))=_
 rw [e1,e2,List.length_append,List.length_append]
 push_cast
 rfl
theorem Q9y {W P t:List Int} {img:Int} {l:Lg} {last lz:En} {es:List En} (hW:By W) (hc:0<=l.cyc/\l.cyc<=1073741824) (ho:0<=l.out/\l.out<=6) (hr:last.r=lz.r) (hb:last.b=lz.b) (hl:LOk last) (hk2:last.k<=2) (hbh:behind last l.fin=true)
  (hw:W=P++finB lz l++[sumL (P++finB lz l)]++t):finP (bs W) img (P.length+1) last es=if t=[] then .ok ⟨img,es,l.cyc,l.ret,l.br,l.out⟩ else .bad ((P++finB lz l++[sumL (P++finB lz l)]).length:Int):=by
 rw [Qkp] at hbh
 have hbh:l.ret<=1099511627776/\l.br<=l.ret/\last.b<=l.br/\(((255:Int)=255/\last.r<=l.ret)\/(¬(255:Int)=255/\l.ret=last.r/\last.k<255/\l.br=last.b)\/(¬(255:Int)=255/\ ¬l.ret=last.r/\last.r<l.ret)):=hbh
 obtain ⟨x1,x2,x3,x4⟩:=hbh
 have x4:last.r<=l.ret:=by omega
 have hw0:W=P++([255]++pbL l.cyc++pbL (l.ret-lz.r)++pbL (l.br-lz.b)++[l.out%256])++[sumL (P++finB lz l)]++t:=hw
 rw [<-hr,<-hb,show l.out%256=l.out by omega] at hw0
 have e1:((P++[255]).length:Int)=P.length+1:=by simp
 have g1:=Qvv (Qlf (P:=P++[255]) (x:=pbL l.cyc) (t:=pbL (l.ret-last.r)++pbL (l.br-last.b)++[l.out]++[sumL (P++finB lz l)]++t) hW (by rw [hw0];simp only [List.append_assoc]))
 rw [e1,show l.cyc%4611686018427387904=l.cyc by omega] at g1
 have v1:(numL (bs W) (P.length+1)).getD 0 0=l.cyc:=by rw [g1];rfl
 have v2:(numL (bs W) (P.length+1)).getD 1 0=((pbL l.cyc).length:Int):=by rw [g1];rfl
 have v3:(numL (bs W) (P.length+1)).getD 2 0=0:=by rw [g1];rfl
 have hct:=Qyh (P:=P++[255]++pbL l.cyc) (t:=[l.out]++[sumL (P++finB lz l)]++t) (last:=last) (k:=255) (r:=l.ret) (b:=l.br) hW (by rw [hw0];simp only [List.append_assoc]) hl x4 x1 x3 x2 (by omega)
 have eF:P++finB lz l=P++[255]++pbL l.cyc++pbL (l.ret-last.r)++pbL (l.br-last.b)++[l.out]:=by
  unfold finB
  rw [<-hr,<-hb,show l.out%256=l.out by omega]
  simp only [List.append_assoc]
 obtain ⟨o1,o2⟩:=at_of (P:=P++[255]++pbL l.cyc++pbL (l.ret-last.r)++pbL (l.br-last.b)) (x:=l.out) (t:=[sumL (P++finB lz l)]++t) hW (by rw [hw0];simp only [List.append_assoc,List.cons_append,List.nil_append])
 obtain ⟨s1,s2⟩:=at_of (P:=P++finB lz l) (x:=sumL (P++finB lz l)) (t:=t) hW (by rw [hw];simp only [List.append_assoc,List.cons_append,List.nil_append])
 have s3:=Q6g (P:=P++finB lz l) (t:=[sumL (P++finB lz l)]++t) hW (by rw [hw];simp only [List.append_assoc])
 have el:((P++finB lz l).length:Int)=((P++[255]++pbL l.cyc++pbL (l.ret-last.r)++pbL (l.br-last.b)).length:Int)+1:=by rw [eF,List.length_append];simp
 rw [el] at s1 s2 s3
 have hl2:((P++[255]++pbL l.cyc).length:Int)=P.length+1+(numL (bs W) (P.length+1)).getD 1 0:=by rw [v2,List.length_append,List.length_append];simp
 rw [hl2] at hct
 have hf:=Qtc (S:=bs W) (img:=img) (a:=P.length+1) (last:=last) (es:=es) v3 (by rw [v1];exact hc.2) hct s2 (by rw [o1];exact ho.2) (by rw [s1,s3])
 rw [hf,v1,o1]
 have hz:((bs W).size:Int)=((P++[255]++pbL l.cyc++pbL (l.ret-last.r)++pbL (l.br-last.b)).length:Int)+2+(t.length:Int):=by
  rw [Qc1,hw,eF]
  simp only [List.length_append,List.length_cons,List.length_nil]
  push_cast
  omega
 have hq:((P++finB lz l++[sumL (P++finB lz l)]).length:Int)=((P++[255]++pbL l.cyc++pbL (l.ret-last.r)++pbL (l.br-last.b)).length:Int)+2:=by
  rw [List.length_append,List.length_singleton]
  push_cast
  omega
 rw [hz,hq]
 by_cases ht:t=[]
 ·rw [if_pos ht,if_neg (by rw [ht];simp)]
 ·rw [if_neg ht,if_pos]
  have:0<t.length:=by
   cases t with
   |nil=>exact absurd rfl ht
   |cons y ys=>simp
  omega
theorem Q9l {W P t:List Int} {x last lz:En} (hW:By W) (hr:last.r=lz.r) (hb:last.b=lz.b) (hl:LOk last) (hs:Qcg last x=true) (hv:okV x) (hw:W=P++entB lz x++[sumL (P++entB lz x)]++t):
  bAt (bs W) P.length=x.k/\(P.length:Int)<(bs W).size/\0<=x.k/\x.k<=2/\LOk x/\entP (bs W) (P.length+1) last x.k=.ok (x,((P++entB lz x++[sumL (P++entB lz x)]).length:Int)):=by
 rw [Qre] at hs
 obtain ⟨w1,w2,w3,w4⟩:=hv
 rw [wr_u8] at w4
 obtain ⟨l1,l2,l3,l4⟩:=hl
 have hw0:W=P++([x.k%256]++pbL (x.r-lz.r)++pbL (x.b-lz.b)++[x.v%256])++[sumL (P++entB lz x)]++t:=hw
 rw [<-hr,<-hb,show x.k%256=x.k by omega,show x.v%256=x.v by omega] at hw0
 have eF:P++entB lz x=P++[x.k]++pbL (x.r-last.r)++pbL (x.b-last.b)++[x.v]:=by
  unfold entB
  rw [<-hr,<-hb,show x.k%256=x.k by omega,show x.v%256=x.v by omega]
  simp only [List.append_assoc]
 obtain ⟨k1,k2⟩:=at_of (P:=P) (x:=x.k) (t:=pbL (x.r-last.r)++pbL (x.b-last.b)++[x.v]++[sumL (P++entB lz x)]++t) hW (by rw [hw0];simp only [List.append_assoc,List.cons_append,List.nil_append])
 have hct:=Qyh (P:=P++[x.k]) (t:=[x.v]++[sumL (P++entB lz x)]++t) (last:=last) (k:=x.k) (r:=x.r) (b:=x.b) hW (by rw [hw0];simp only [List.append_assoc]) ⟨l1,l2,l3,l4⟩ (by omega) (by omega) (by omega) (by omega) (by omega)
 rw [show ((P++[x.k]).length:Int)=P.length+1 by simp] at hct
 obtain ⟨o1,o2⟩:=at_of (P:=P++[x.k]++pbL (x.r-last.r)++pbL (x.b-last.b)) (x:=x.v) (t:=[sumL (P++entB lz x)]++t) hW (by rw [hw0];simp only [List.append_assoc,List.cons_append,List.nil_append])
 obtain ⟨s1,s2⟩:=at_of (P:=P++entB lz x) (x:=sumL (P++entB lz x)) (t:=t) hW (by rw [hw];simp only [List.append_assoc,List.cons_append,List.nil_append])
 have s3:=Q6g (P:=P++entB lz x) (t:=[sumL (P++entB lz x)]++t) hW (by rw [hw];simp only [List.append_assoc])
 have el:((P++entB lz x).length:Int)=((P++[x.k]++pbL (x.r-last.r)++pbL (x.b-last.b)).length:Int)+1:=by rw [eF,List.length_append];simp
 rw [el] at s1 s2 s3
 refine ⟨k1,k2,hs.1,hs.2.1,⟨by omega,hs.2.2.1,by omega,by omega⟩,?_⟩
 rw [Qob hct s2 (by rw [s1,s3]),o1]
 have hq:((P++entB lz x++[sumL (P++entB lz x)]).length:Int)=((P++[x.k]++pbL (x.r-last.r)++pbL (x.b-last.b)).length:Int)+2:=by
  rw [List.length_append,List.length_singleton]
  push_cast
  omega
 rw [hq]
theorem Q4r {W t:List Int} {img:Int} {l:Lg} (hW:By W) (hc:0<=l.cyc/\l.cyc<=1073741824) (ho:0<=l.out/\l.out<=6): ∀(rest:List En) (f:Nat) (P:List Int) (last lz:En) (es:List En),rest.length<f->last.r=lz.r->last.b=lz.b->LOk last->last.k<=2->Qdc last rest=true->behind (Qg last rest) l.fin=true->(∀x,x∈rest->okV x)->
  W=encS P lz rest++finB (Qg lz rest) l++[sumL (encS P lz rest++finB (Qg lz rest) l)]++t->parF (bs W) img f P.length last es=if t=[] then .ok ⟨img,es++rest,l.cyc,l.ret,l.br,l.out⟩ else .bad ((encS P lz rest++finB (Qg lz rest) l++[sumL (encS P lz rest++finB (Qg lz rest) l)]).length:Int)
 |[],f,P,last,lz,es,hf,hr,hb,hl,hk2,ha,hbh,hv,hw=>by
  obtain ⟨f',rfl⟩: ∃f',f=f'+1:=⟨f-1,by simp at hf;omega⟩
  have hw:W=P++finB lz l++[sumL (P++finB lz l)]++t:=hw
  obtain ⟨k1,k2⟩:=at_of (P:=P) (x:=255) (t:=pbL l.cyc++pbL (l.ret-lz.r)++pbL (l.br-lz.b)++[l.out%256]++[sumL (P++finB lz l)]++t) hW (by rw [hw];simp only [finB,List.append_assoc,List.cons_append,List.nil_append])
  have hk:=Qo9 k2 (.inr k1)
  rw [k1] at hk
  rw [Qqs hk,Qcx,Q9y hW hc ho hr hb hl hk2 hbh hw,List.append_nil]
  rfl
 |x::rest,f,P,last,lz,es,hf,hr,hb,hl,hk2,ha,hbh,hv,hw=>by
  obtain ⟨f',rfl⟩: ∃f',f=f'+1:=⟨f-1,by simp at hf;omega⟩
  have ha:(Qcg last x&&Qdc x rest)=true:=ha
  rw [Bool.and_eq_true] at ha
  have hw:W=encS (P++entB lz x++[sumL (P++entB lz x)]) x rest++finB (Qg x rest) l++[sumL (encS (P++entB lz x++[sumL (P++entB lz x)]) x rest++finB (Qg x rest) l)]++t:=hw
  obtain ⟨t',ht'⟩:=Qn9 (P++entB lz x++[sumL (P++entB lz x)]) x rest
  obtain ⟨k1,k2,k3,k4,k5,k6⟩:=Q9l (P:=P) (x:=x) (last:=last) (lz:=lz) (t:=t'++finB (Qg x rest) l++[sumL (encS (P++entB lz x++[sumL (P++entB lz x)]) x rest++finB (Qg x rest) l)]++t) hW hr hb hl ha.1 (hv x (by simp)) (by rw [hw,ht'];simp only [List.append_assoc])
  have hk:=Qo9 k2 (by rw [k1];exact .inl k4)
  rw [k1] at hk
  rw [Qqs hk,Qqt (by omega) k6]
  have ih:=Q4r (img:=img) hW hc ho rest f' (P++entB lz x++[sumL (P++entB lz x)]) x x (es++[x]) (by simp at hf;omega) rfl rfl k5 k4 ha.2 hbh (fun y hy=>hv y (by simp [hy])) hw
  rw [ih,List.append_assoc]
  rfl
theorem Qn8: ∀(P:List Int) (d:En) (l:List En),P.length+l.length<=(encS P d l).length
 |_,_,[]=>by simp [encS]
 |P,d,x::l=>by
  have:=Qn8 (P++entB d x++[sumL (P++entB d x)]) x l
  have h2:=Qs7 d x
  rw [List.length_append,List.length_append,List.length_singleton] at this
  simp only [List.length_cons]
  show _<=(encS _ x l).length
  omega
theorem Qy1 (l:Lg):By (encG l):=((Qs4 (Qtk _)).app (Qzo _ _)).app (By.one (Qhb _))
theorem Qv4 {l:Lg} {t:List Int} (ht:By t) (h:right l=true) (hv: ∀x,x∈l.es->okV x) (hi:0<=l.img/\l.img<4294967296):par (bs (encG l++t))=if t=[] then .ok l else .bad ((encG l).length:Int):=by
 rw [Qh6,Qq2,Bool.and_eq_true] at h
 obtain ⟨⟨h1,h2⟩,h3,h4,h5,h6⟩:=h
 have hW:=(Qy1 l).app ht
 obtain ⟨u,hu⟩:=Qn9 (head l.img) zeE l.es
 have eW:encG l++t=encS (head l.img) zeE l.es++finB (Qg zeE l.es) l++[sumL (encS (head l.img) zeE l.es++finB (Qg zeE l.es) l)]++t:=rfl
 have hh:=Qlf (W:=encG l++t) (P:=[]) (x:=head l.img) (t:=u++finB (Qg zeE l.es) l++[sumL (encS (head l.img) zeE l.es++finB (Qg zeE l.es) l)]++t) hW (by rw [eW,hu];simp only [List.append_assoc,List.nil_append])
 obtain ⟨_,z1,z2⟩:=hh
 simp only [List.length_nil,Int.natCast_zero,Int.zero_add,head,List.length_cons] at z1 z2
 have b0:=z2 0 (by decide)
 have b1:=z2 1 (by decide)
 have b2:=z2 2 (by decide)
 have b3:=z2 3 (by decide)
 have b4:=z2 4 (by decide)
 have b5:=z2 5 (by decide)
 have b6:=z2 6 (by decide)
 simp only [List.getD_cons_zero,List.getD_cons_succ] at b0 b1 b2 b3 b4 b5 b6
 have hp:=Qlg (S:=bs (encG l++t)) b0 b1 b2 (by omega)
 rw [if_neg (by omega)] at hp
 have eimg:((bAt (bs (encG l++t)) 3*256+bAt (bs (encG l++t)) 4)*256+bAt (bs (encG l++t)) 5)*256+bAt (bs (encG l++t)) 6=l.img:=by
  have b3:bAt (bs (encG l++t)) 3=l.img/16777216%256:=b3
  have b4:bAt (bs (encG l++t)) 4=l.img/65536%256:=b4
  have b5:bAt (bs (encG l++t)) 5=l.img/256%256:=b5
  have b6:bAt (bs (encG l++t)) 6=l.img%256:=b6
  omega
 rw [eimg] at hp
 rw [Qqu hp]
 have hlen:=Qn8 (head l.img) zeE l.es
 have hsz:(bs (encG l++t)).size=(encG l++t).length:=Qc1 _
 have hg:(encG l).length=(encS (head l.img) zeE l.es).length+(finB (Qg zeE l.es) l).length+1:=by
  show (encS (head l.img) zeE l.es++finB (Qg zeE l.es) l++[_]).length=_
  simp only [List.length_append,List.length_cons,List.length_nil]
 have:=Q4r (W:=encG l++t) (t:=t) (img:=l.img) (l:=l) hW ⟨h3,h4⟩ ⟨h5,h6⟩ l.es ((bs (encG l++t)).size+1) (head l.img) noE zeE [] (by rw [hsz,List.length_append];omega) rfl rfl ⟨by decide,by decide,by decide,by decide⟩ (by decide) h1 h2 hv eW
 exact this
theorem Qbgm {l:Lg} (h:right l=true) (hv: ∀x,x∈l.es->okV x) (hi:0<=l.img/\l.img<4294967296):par (bs (encG l))=.ok l:=by
 have:=Qv4 (l:=l) (t:=[]) (fun x hx=>by cases hx) h hv hi
 rwa [List.append_nil,if_pos rfl] at this
theorem Rd.bind_bad {α β:Type} {x:Rd α} {f:α->Rd β} {p:Int} (h:x.bind f=.bad p):x=.bad p\/ ∃a,x=.ok a/\f a=.bad p:=by
 cases x with
 |bad q=>left;cases h;rfl
 |ok a=>exact .inr ⟨a,rfl,h⟩
def In (S:ByteArray) (p:Int):Prop:=0<=p/\p<=(S.size:Int)
theorem Qgg {S:ByteArray} {a q:Int} {p:Int->Bool} (h:Qba S a p=.bad q):q=a:=by
 unfold Qba at h
 split at h
 ·cases h;rfl
 ·split at h<;>cases h
  rfl
theorem Qvt {S:ByteArray} {a q:Int} {p:Int->Bool} (h:numP S a p=.bad q):q=a:=by
 unfold numP at h
 split at h<;>cases h
 rfl
theorem Qqe {S:ByteArray} {a:Int} {x:Int×Int} {p:Int->Bool} (ha:In S a) (h:numP S a p=.ok x):In S x.2:=by
 obtain ⟨h1,h2,rfl⟩:=Qqf h
 have:=Qh1 S a
 obtain ⟨a1,a2⟩:=ha
 show 0<=a+(numL S a).getD 1 0/\a+(numL S a).getD 1 0<=(S.size:Int)
 omega
theorem Qyf {S:ByteArray} {a k:Int} {last:En} (ha:In S a):(∀q,cntP S a last k=.bad q->In S q)/\ ∀x,cntP S a last k=.ok x->In S x.2:=by
 refine ⟨fun q h=> ?_,fun x h=> ?_⟩
 ·rcases Rd.bind_bad h with h|⟨n,h1,h⟩
  ·rw [Qvt h];exact ha
  ·have h2:=Qqe ha h1
   rcases Rd.bind_bad h with h|⟨m,h3,h⟩
   ·rw [Qvt h];exact h2
   ·cases h
 ·obtain ⟨n,h1,h⟩:=Rd.bind_ok h
  obtain ⟨m,h2,h⟩:=Rd.bind_ok h
  cases h
  exact Qqe (Qqe ha h1) h2
theorem Qfj {S:ByteArray} {a x:Int} {p:Int->Bool} (ha:In S a) (h:Qba S a p=.ok x):In S (a+1):=by
 obtain ⟨h1,_,_⟩:=Qfk h
 obtain ⟨a1,a2⟩:=ha
 exact ⟨by omega,by omega⟩
theorem Q9i {S:ByteArray} {a k:Int} {last:En} (ha:In S a):(∀q,entP S a last k=.bad q->In S q)/\ ∀x,entP S a last k=.ok x->In S x.2:=by
 obtain ⟨c1,c2⟩:=Qyf (k:=k) (last:=last) ha
 refine ⟨fun q h=> ?_,fun x h=> ?_⟩
 ·rcases Rd.bind_bad h with h|⟨y,h1,h⟩
  ·exact c1 q h
  ·have i1:=c2 y h1
   rcases Rd.bind_bad h with h|⟨v,h2,h⟩
   ·rw [Qgg h];exact i1
   ·have i2:=Qfj i1 h2
    rcases Rd.bind_bad h with h|⟨s,h3,h⟩
    ·rw [Qgg h];exact i2
    ·cases h
 ·obtain ⟨y,h1,h⟩:=Rd.bind_ok h
  obtain ⟨v,h2,h⟩:=Rd.bind_ok h
  obtain ⟨s,h3,h⟩:=Rd.bind_ok h
  cases h
  have:=Qfj (Qfj (c2 y h1) h2) h3
  show In S (y.2+2)
  rwa [show y.2+1+1=y.2+2 by omega] at this
theorem Q9w {S:ByteArray} {img a q:Int} {last:En} {es:List En} (ha:In S a) (h:finP S img a last es=.bad q):In S q:=by
 rcases Rd.bind_bad h with h|⟨c,h1,h⟩
 ·rw [Qvt h];exact ha
 ·have i1:=Qqe ha h1
  obtain ⟨c1,c2⟩:=Qyf (k:=255) (last:=last) i1
  rcases Rd.bind_bad h with h|⟨y,h2,h⟩
  ·exact c1 q h
  ·have i2:=c2 y h2
   rcases Rd.bind_bad h with h|⟨o,h3,h⟩
   ·rw [Qgg h];exact i2
   ·have i3:=Qfj i2 h3
    rcases Rd.bind_bad h with h|⟨s,h4,h⟩
    ·rw [Qgg h];exact i3
    ·have i4:=Qfj i3 h4
     split at h
     ·cases h
      rwa [show y.2+1+1=y.2+2 by omega] at i4
     ·cases h
theorem Q4q {S:ByteArray} {img q:Int}: ∀(f:Nat) (a:Int) (last:En) (es:List En),In S a->parF S img f a last es=.bad q->In S q
 |0,a,_,_,ha,h=>by cases h;exact ha
 |f+1,a,last,es,ha,h=>by
  have h:(Qd2 S a).bind _=_:=h
  rcases Rd.bind_bad h with h|⟨k,h1,h⟩
  ·rw [Qgg h];exact ha
  ·have i1:=Qfj ha h1
   split at h
   ·exact Q9w i1 h
   ·obtain ⟨c1,c2⟩:=Q9i (k:=k) (last:=last) i1
    rcases Rd.bind_bad h with h|⟨x,h2,h⟩
    ·exact c1 q h
    ·exact Q4q f x.2 x.1 _ (c2 x h2) h
theorem Qbgl {S:ByteArray} {q:Int} (h:par S=.bad q):In S q:=by
 rcases Rd.bind_bad h with h|⟨img,h1,h⟩
 ·rcases Rd.bind_bad h with h|⟨x0,g0,h⟩
  ·rw [Qgg h];exact ⟨by omega,by omega⟩
  ·have i0:=Qfj (a:=0) ⟨by omega,by omega⟩ g0
   rcases Rd.bind_bad h with h|⟨x1,g1,h⟩
   ·rw [Qgg h];exact i0
   ·have i1:=Qfj (a:=1) i0 g1
    rcases Rd.bind_bad h with h|⟨x2,g2,h⟩
    ·rw [Qgg h];exact i1
    ·have i2:=Qfj (a:=2) i1 g2
     split at h
     ·cases h;exact i2
     ·cases h
 ·obtain ⟨x0,g0,h1⟩:=Rd.bind_ok h1
  obtain ⟨x1,g1,h1⟩:=Rd.bind_ok h1
  obtain ⟨x2,g2,h1⟩:=Rd.bind_ok h1
  split at h1
  ·cases h1
  ·exact Q4q _ 7 _ _ ⟨by omega,by omega⟩ h
end Go.Lgp
