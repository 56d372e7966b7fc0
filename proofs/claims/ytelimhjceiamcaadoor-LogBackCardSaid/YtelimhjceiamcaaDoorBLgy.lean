/-
 Plain laws of LogBack: bytes that are cut, longer, or behind a head.
 No conditions.
-/
import Derived.Test.YtelimhjceiamcaaDoorBLgx
namespace Go.Lgp
open Go.Ev Go.RowKit Go.Wbp
set_option linter.unusedVariables false
set_option linter.unusedSimpArgs false
structure RdOk (S:ByteArray) (l:Lg):Prop where
 eq:S=bs (encG l)
 rt:right l=true
 n:l.es.length+8<=S.size
 im:0<=l.img/\l.img<4294967296
 cy:0<=l.cyc/\l.cyc<=1073741824
 re:0<=l.ret/\l.ret<=1099511627776
 br:0<=l.br/\l.br<=1099511627776
 ou:0<=l.out/\l.out<=6
 lst:lstE (encL l.es) l.es.length=l.es
 val: ∀x,x∈l.es->okV x
theorem rd_ok {S:ByteArray} {l:Lg} (h:par S=.ok l):RdOk S l:=by
 obtain ⟨⟨h1,h2,h3,h4,h5,h6,h7⟩,h8,h9⟩:=Q4t h
 have hr:=h1
 rw [Qh6] at hr
 refine ⟨h2,h1,?_,⟨h8,h9⟩,⟨hr.2.1,hr.2.2.1⟩,⟨h5,h4⟩,⟨h6,by omega⟩,⟨hr.2.2.2.1,hr.2.2.2.2⟩,Qvf h3,h3⟩
 have h:=Qn8 (head l.img) zeE l.es
 have h7:(head l.img).length=7:=rfl
 rw [h2,Qc1]
 unfold encG encP
 simp only [List.length_append,List.length_cons,List.length_nil]
 omega
theorem Q74 {l:List Int} {k:Nat} (h:k<=l.length):(bs l).extract 0 k=bs (l.take k):=by
 have e:(l.take k).length=k:=by rw [List.length_take];omega
 have:=Qx1 (p:=l.take k) (q:=l.drop k)
 rw [List.take_append_drop,e] at this
 exact this
theorem Q8p {L:Lg} (h:LgOk L) {k:Nat} (hk:k<(encG L).length):(par ((bs (encG L)).extract 0 k)).isOk=false:=by
 cases hp:par ((bs (encG L)).extract 0 k) with
 |bad p=>rfl
 |ok l=>
  obtain ⟨h1,h2,h3,h4,h5,h6,h7,h8,h9,h10⟩:=rd_ok hp
  rw [Q74 (by omega)] at h1
  have e:bs (encG L)=bs (encG l++(encG L).drop k):=by
   rw [<-Qc0,<-h1,Qc0,List.take_append_drop]
  have hb:By ((encG L).drop k):=fun x hx=>Qy1 L x (List.mem_of_mem_drop hx)
  have hm:=Qv4 hb h2 h10 h4
  rw [<-e,h.par,if_neg (by intro h0;have:=congrArg List.length h0;rw [List.length_drop,List.length_nil] at this;omega)] at hm
  cases hm
theorem Qbfr {L:Lg} (h:LgOk L):par (bs (encG L)++⟨#[120]⟩)=.bad ((encG L).length:Int):=by
 have hm:=Qv4 (t:=[120]) (fun x hx=>by rw [List.mem_singleton.1 hx];decide) h.rt h.val h.im
 rw [if_neg (by simp),<-Qc0] at hm
 exact hm
theorem pre7 {P R:ByteArray} {l:Lg} (hp:P.size=7) (h:par R=.ok l):(par (P++R)).isOk=false:=by
 have h80:bAt R 0=80:=by
  obtain ⟨_,h1,_⟩:=Rd.bind_ok h
  obtain ⟨_,h1,_⟩:=Rd.bind_ok h1
  obtain ⟨_,h2,_⟩:=Qfk h1
  simpa using h2
 have h7:bAt (P++R) 7=80:=by
  rw [<-h80]
  unfold bAt
  have hl:P.data.toList.length=7:=by rw [<-hp];simp
  have:(P++R).data.toList=P.data.toList++R.data.toList:=by simp
  rw [this]
  show ((((P.data.toList++R.data.toList).getD 7 0).toNat:Nat):Int)=_
  rw [List.getD_eq_getElem?_getD,List.getElem?_append_right (by omega),hl,List.getD_eq_getElem?_getD]
  rfl
 cases hq:par (P++R) with
 |bad p=>rfl
 |ok m=>
  obtain ⟨i,_,h2⟩:=Rd.bind_ok hq
  obtain ⟨k,h3,_⟩:=Rd.bind_ok h2
  obtain ⟨_,h5,h6⟩:=Q0x h3
  omega
theorem ok_of {S:ByteArray} (h:(par S).isOk=true): ∃l,par S=.ok l:=by
 cases hp:par S with
 |bad p=>rw [hp] at h;cases h
 |ok l=>exact ⟨l,rfl⟩
end Go.Lgp
