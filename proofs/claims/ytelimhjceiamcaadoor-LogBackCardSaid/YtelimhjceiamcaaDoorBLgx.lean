/-
 Plain laws of LogGrows: the bytes of a log with fewer entries.
 No conditions.
-/
import Derived.Test.YtelimhjceiamcaaDoorBLgu
namespace Go.Lgp
open Go.Ev Go.RowKit Go.Wbp
set_option linter.unusedVariables false
set_option linter.unusedSimpArgs false
theorem Qy8: ∀(P:List Int) (d:En) (l m:List En),encS P d (l++m)=encS (encS P d l) (Qg d l) m
 |_,_,[],_=>rfl
 |P,d,x::l,m=>Qy8 (P++entB d x++[sumL (P++entB d x)]) x l m
def pre (L:Lg) (k:Nat):List Int:=encS (head L.img) zeE (L.es.take k)
theorem Qbgs (L:Lg) (k:Nat): ∃t,encG L=pre L k++t:=by
 obtain ⟨t,ht⟩:=Qn9 (pre L k) (Qg zeE (L.es.take k)) (L.es.drop k)
 refine ⟨t++finB (Qg zeE L.es) L++[sumL (encP L)],?_⟩
 have h:encS (head L.img) zeE L.es=pre L k++t:=by
  conv=>lhs;rw [<-List.take_append_drop k L.es]
  rw [Qy8]
  exact ht
 unfold encG encP
 rw [h]
 simp only [List.append_assoc]
theorem Q40 (L:Lg) (k:Nat):7<=(pre L k).length:=by
 have:=Qn8 (head L.img) zeE (L.es.take k)
 have h7:(head L.img).length=7:=rfl
 unfold pre
 omega
theorem Q3w (L:Lg) (k:Nat):(pre L k).length<=(bs (encG L)).size:=by
 obtain ⟨t,ht⟩:=Qbgs L k
 rw [Qc1,ht,List.length_append]
 omega
structure LgOk (L:Lg):Prop where
 rt:right L=true
 val: ∀x,x∈L.es->okV x
 len:L.es.length<=60
 im:0<=L.img/\L.img<4294967296
theorem LgOk.lst {L:Lg} (h:LgOk L):lstE (encL L.es) L.es.length=L.es:=Qvf h.val
theorem LgOk.take {L:Lg} (h:LgOk L) {k:Nat} (hk:k<=L.es.length):lstE (encL L.es) k=L.es.take k:=by rw [<-Qbe9 _ hk,h.lst]
theorem LgOk.pre_le {L:Lg} (h:LgOk L) {k:Nat} (hk:k<=L.es.length):(pre L k).length<=1200:=by
 have h1:=Qn7 L.img (encL L.es) k
 have h2:encI L.img (encL L.es) k=pre L k:=by unfold encI pre;rw [h.take hk]
 have:=h.len
 rw [h2] at h1
 omega
theorem LgOk.size {L:Lg} (h:LgOk L):(bs (encG L)).size<=1300:=by
 have h1:=h.pre_le (k:=L.es.length) (Nat.le_refl _)
 have h2:=Qzp (Qg zeE L.es) L
 rw [Qc1]
 unfold encG encP
 unfold pre at h1
 rw [List.take_length] at h1
 simp only [List.length_append,List.length_cons,List.length_nil]
 omega
theorem LgOk.par {L:Lg} (h:LgOk L):par (bs (encG L))=.ok L:=Qbgm h.rt h.val h.im
end Go.Lgp
