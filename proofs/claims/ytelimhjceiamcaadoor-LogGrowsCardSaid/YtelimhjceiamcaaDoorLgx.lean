/-
 Plain laws of LogGrows: the bytes of a log with fewer entries.
 No conditions.
-/
import Derived.Test.YtelimhjceiamcaaDoorLgu
namespace Go.Lgp
open Go.Ev Go.RowKit Go.Wbp
set_option linter.unusedVariables false
set_option linter.unusedSimpArgs false
theorem Q2y: ∀(P:List Int) (d:En) (l m:List En),encS P d (l++m)=encS (encS P d l) (Qe d l) m
 |_,_,[],_=>rfl
 |P,d,x::l,m=>Q2y (P++entB d x++[sumL (P++entB d x)]) x l m
theorem Qz5: ∀(d:En) (l m:List En),Qbk d (l++m)=(Qbk d l&&Qbk (Qe d l) m)
 |_,[],_=>by simp [Qbk,Qe]
 |d,x::l,m=>by
  show (Qb2 d x&&Qbk x (l++m))=(Qb2 d x&&Qbk x l&&Qbk (Qe x l) m)
  rw [Qz5 x l m,Bool.and_assoc]
def less (L:Lg) (k:Nat):Lg:=⟨L.img,L.es.take k,0,(Qe zeE (L.es.take k)).r,(Qe zeE (L.es.take k)).b,0⟩
def pre (L:Lg) (k:Nat):List Int:=encS (head L.img) zeE (L.es.take k)
theorem Qsn (L:Lg) (k:Nat):encG (less L k)=pre L k++([255,0,0,0,0]++[sumL (pre L k++[255,0,0,0,0])]):=by
 have h:encP (less L k)=pre L k++[255,0,0,0,0]:=by
  show encS (head L.img) zeE (L.es.take k)++([255]++pbL 0++pbL ((Qe zeE (L.es.take k)).r-(Qe zeE (L.es.take k)).r)++pbL ((Qe zeE (L.es.take k)).b-(Qe zeE (L.es.take k)).b)++[0%256])=_
  rw [Int.sub_self,Int.sub_self]
  rfl
 unfold encG
 rw [h,List.append_assoc]
theorem Q30 (L:Lg) (k:Nat): ∃t,encG L=pre L k++t:=by
 obtain ⟨t,ht⟩:=Qm9 (pre L k) (Qe zeE (L.es.take k)) (L.es.drop k)
 refine ⟨t++finB (Qe zeE L.es) L++[sumL (encP L)],?_⟩
 have h:encS (head L.img) zeE L.es=pre L k++t:=by
  conv=>lhs;rw [<-List.take_append_drop k L.es]
  rw [Q2y]
  exact ht
 unfold encG encP
 rw [h]
 simp only [List.append_assoc]
theorem Qbc8 (L:Lg) (k:Nat):7<=(pre L k).length:=by
 have:=Quj (head L.img) zeE (L.es.take k)
 have h7:(head L.img).length=7:=rfl
 unfold pre
 omega
theorem Q0g (L:Lg) (k:Nat):(bs (encG (less L k))).size=(pre L k).length+6:=by
 rw [Qc9,Qsn]
 simp
theorem Qbh1 (L:Lg) (k:Nat):(pre L k).length<=(bs (encG L)).size:=by
 obtain ⟨t,ht⟩:=Q30 L k
 rw [Qc9,ht,List.length_append]
 omega
theorem Q5s (L:Lg) (k:Nat):(bs (encG (less L k))).extract 0 (pre L k).length=bs (pre L k):=by rw [Qsn,Qvw]
theorem Qzt (L:Lg) (k:Nat):(bs (encG L)).extract 0 (pre L k).length=bs (pre L k):=by
 obtain ⟨t,ht⟩:=Q30 L k
 rw [ht,Qvw]
theorem Qz8 (L:Lg) (k:Nat):(bs (encG (less L k))).extract (pre L k).length ((pre L k).length+5)=bs [255,0,0,0,0]:=by
 rw [Qsn,<-Qdg,<-Qdg]
 have:(pre L k).length=(bs (pre L k)).size:=(Qc9 _).symm
 rw [this]
 apply ByteArray.ext
 simp [bs,ByteArray.size,List.drop_append]
structure LgOk (L:Lg):Prop where
 rt:right L=true
 val: ∀x,x∈L.es->okV x
 len:L.es.length<=60
 im:0<=L.img/\L.img<4294967296
theorem LgOk.lst {L:Lg} (h:LgOk L):lstE (encL L.es) L.es.length=L.es:=Q1s h.val
theorem LgOk.take {L:Lg} (h:LgOk L) {k:Nat} (hk:k<=L.es.length):lstE (encL L.es) k=L.es.take k:=by rw [<-Q93 _ hk,h.lst]
theorem LgOk.last {L:Lg} (h:LgOk L) {k:Nat} (hk:k<=L.es.length) (h0:0<k):Qe zeE (L.es.take k)=rowE (encL L.es) (k-1):=by
 rw [<-h.take hk,Qtk]
 cases k with
 |zero=>omega
 |succ k=>rfl
theorem LgOk.less {L:Lg} (h:LgOk L) (k:Nat):LgOk (less L k):=by
 have hr:=h.rt
 rw [Qg5,Qi9] at hr
 have ha:Qbk noE L.es=true:=by
  have:=hr.1
  rw [Bool.and_eq_true] at this
  exact this.1
 have hsp:Qbk noE (L.es.take k)=true:=by
  rw [<-List.take_append_drop k L.es,Qz5,Bool.and_eq_true] at ha
  exact ha.1
 refine ⟨?_,fun x hx=>h.val x (List.mem_of_mem_take hx),by have h1:(L.es.take k).length=min k L.es.length:=List.length_take;have h2:=h.len;show (L.es.take k).length<=60;omega,h.im⟩
 rw [Qg5,Qi9]
 show (Qbk noE (L.es.take k)&&behind (Qe noE (L.es.take k)) ⟨(Qe zeE (L.es.take k)).r,(Qe zeE (L.es.take k)).b,255,0⟩)=true/\(0:Int)<=0/\(0:Int)<=1073741824/\(0:Int)<=0/\(0:Int)<=6
 refine ⟨?_,by omega,by omega,by omega,by omega⟩
 rw [hsp,Bool.true_and]
 rcases List.eq_nil_or_concat (L.es.take k) with e|⟨l,x,e⟩
 ·rw [e];decide
 ·have e:L.es.take k=l++[x]:=by rw [e,List.concat_eq_append]
  rw [e,Qp8,Bool.and_eq_true,Qkq] at hsp
  rw [e,Qgc,Qgc,Qj0]
  show x.r<=1099511627776/\x.b<=x.r/\x.b<=x.b/\((255:Int)=255/\x.r<=x.r\/_)
  omega
theorem LgOk.pre_le {L:Lg} (h:LgOk L) {k:Nat} (hk:k<=L.es.length):(pre L k).length<=1200:=by
 have h1:=Qpy L.img (encL L.es) k
 have h2:encI L.img (encL L.es) k=pre L k:=by unfold encI pre;rw [h.take hk]
 have:=h.len
 rw [h2] at h1
 omega
theorem LgOk.size {L:Lg} (h:LgOk L):(bs (encG L)).size<=1300:=by
 have h1:=h.pre_le (k:=L.es.length) (Nat.le_refl _)
 have h2:=Qxe (Qe zeE L.es) L
 rw [Qc9]
 unfold encG encP
 unfold pre at h1
 rw [List.take_length] at h1
 simp only [List.length_append,List.length_cons,List.length_nil]
 omega
theorem LgOk.par {L:Lg} (h:LgOk L):par (bs (encG L))=.ok L:=Q8d h.rt h.val h.im
theorem LgOk.row {L:Lg} (h:LgOk L) {k i:Nat} (hk:k<=L.es.length) (hi:i<k):rowE (encL L.es) i=rowE (encL (L.es.take k)) i:=by
 have hl:(L.es.take k).length=k:=by rw [List.length_take];omega
 have h1:(encL (L.es.take k)).data.toList.length=k*25:=by
  rw [Q5u (fun x hx=>h.val x (List.mem_of_mem_take hx)),hl]
 conv=>lhs;rw [<-List.take_append_drop k L.es]
 rw [Qsz,Q4k h1,if_pos hi]
end Go.Lgp
