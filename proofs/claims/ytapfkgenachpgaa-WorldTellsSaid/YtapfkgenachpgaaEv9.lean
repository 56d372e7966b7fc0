/- The evaluator, part 9. -/
import Derived.RangeFuncFrom
import Derived.RangeFuncSeq
import Derived.RangeFuncGives
import Derived.RangeFuncLeaves
import Derived.Test.YtapfkgenachpgaaEv8
set_option linter.unusedVariables false
set_option linter.unusedSimpArgs false
set_option linter.unnecessarySimpa false
namespace Go.Ev
open Go.RowKit
set_option linter.unusedVariables false
set_option linter.unusedSimpArgs false
structure EnvS (σ τ:Sig) (env:TT):Prop where
 i: ∀i a k,env.get i=some a→skOf a=some (.i k)→den σ a=.int k (τ.ival i)
 b: ∀i a,env.get i=some a→skOf a=some .b→den σ a=.bool (τ.bval i)
 s: ∀i a,env.get i=some a→skOf a=some .s→den σ a=.str (τ.sval i)
def sbA (env:TT) (a:AVal):Option AVal:=
 match a with
 |.symi k i=>match env.get i with
  |some v=>match skOf v with
   |some (.i k')=>match decide (k=k') with
    |true=>some v
    |false=>none
   |_=>none
  |none=>none
 |.symb i=>match env.get i with
  |some v=>match skOf v with
   |some .b=>some v
   |_=>none
  |none=>none
 |.syms i=>match env.get i with
  |some v=>match skOf v with
   |some .s=>some v
   |_=>none
  |none=>none
 |.int _ _=>some a
 |.bool _=>some a
 |.str _=>some a
 |_=>none
theorem sbA_ok {σ τ:Sig} {env:TT} (h:EnvS σ τ env) {a v:AVal} (he:sbA env a=some v):den σ v=den τ a:=by
 unfold sbA at he
 split at he
 ·rename_i k i
  split at he
  ·rename_i w hw
   split at he
   ·rename_i k' hk
    split at he
    ·rename_i hd
     simp only [decide_eq_true_eq] at hd
     subst hd
     cases he
     exact h.i i _ _ hw hk
    ·cases he
   ·cases he
  ·cases he
 ·rename_i i
  split at he
  ·rename_i w hw
   split at he
   ·rename_i hk;cases he;exact h.b i _ hw hk
   ·cases he
  ·cases he
 ·rename_i i
  split at he
  ·rename_i w hw
   split at he
   ·rename_i hk;cases he;exact h.s i _ hw hk
   ·cases he
  ·cases he
 ·cases he;rfl
 ·cases he;rfl
 ·cases he;rfl
 ·cases he
def sbL (env:TT):List AVal→Option (List AVal)
 |[]=>some []
 |a::l=>match sbA env a with
  |some b=>match sbL env l with
   |some m=>some (b::m)
   |none=>none
  |none=>none
theorem sbL_ok {σ τ:Sig} {env:TT} (h:EnvS σ τ env): ∀{l m:List AVal},sbL env l=some m→m.map (den σ)=l.map (den τ)
 |[],m,he=>by simp only [sbL,Option.some.injEq] at he;subst he;rfl
 |a::l,m,he=>by
  simp only [sbL] at he
  split at he
  ·rename_i b hb
   split at he
   ·rename_i m' hm
    cases he
    simp only [List.map_cons,sbA_ok h hb,sbL_ok h hm]
   ·cases he
  ·cases he
def sbP (env:TT):List (AVal×AVal)→Option (List (AVal×AVal))
 |[]=>some []
 |a::l=>match sbA env a.1 with
  |some b=>match sbA env a.2 with
   |some c=>match sbP env l with
    |some m=>some ((b,c)::m)
    |none=>none
   |none=>none
  |none=>none
theorem sbP_ok {σ τ:Sig} {env:TT} (h:EnvS σ τ env): ∀{l m:List (AVal×AVal)},sbP env l=some m→(m.all fun x=>eqS (den σ x.1) (den σ x.2))=(l.all fun x=>eqS (den τ x.1) (den τ x.2))
 |[],m,he=>by simp only [sbP,Option.some.injEq] at he;subst he;rfl
 |a::l,m,he=>by
  simp only [sbP] at he
  split at he
  ·rename_i b hb
   split at he
   ·rename_i c hc
    split at he
    ·rename_i m' hm
     cases he
     simp only [List.all_cons,sbA_ok h hb,sbA_ok h hc,sbP_ok h hm]
    ·cases he
   ·cases he
  ·cases he
def sbD (env:TT) (d:SDef):Option SDef:=
 match d with
 |.bin o a b=>match sbA env a,sbA env b with
  |some a,some b=>some (.bin o a b)
  |_,_=>none
 |.un o a=>match sbA env a with
  |some a=>some (.un o a)
  |none=>none
 |.conv k a=>match sbA env a with
  |some a=>some (.conv k a)
  |none=>none
 |.low l=>match sbL env l with
  |some l=>some (.low l)
  |none=>none
 |.high l=>match sbL env l with
  |some l=>some (.high l)
  |none=>none
 |.all l=>match sbP env l with
  |some l=>some (.all l)
  |none=>none
 |.fn i k l=>match sbL env l with
  |some l=>some (.fn i k l)
  |none=>none
 |.fnb i l=>match sbL env l with
  |some l=>some (.fnb i l)
  |none=>none
 |.ite c a b=>match sbA env c,sbA env a,sbA env b with
  |some c,some a,some b=>some (.ite c a b)
  |_,_,_=>none
 |.sop o l=>match sbL env l with
  |some l=>some (.sop o l)
  |none=>none
 |.text l=>match sbL env l with
  |some l=>some (.text l)
  |none=>none
 |_=>none
theorem sbD_ok {σ τ:Sig} {env:TT} (h:EnvS σ τ env) (ht:σ.tab=τ.tab) {d e:SDef} (he:sbD env d=some e):evalS σ e=evalS τ d:=by
 have num: ∀(ρ:Sig) (l:List AVal),(l.map fun a=>numS (den ρ a))=(l.map (den ρ)).map numS:=fun ρ l=>by simp
 have byt: ∀(ρ:Sig) (l:List AVal),(l.map fun a=>byteS (den ρ a))=(l.map (den ρ)).map byteS:=fun ρ l=>by simp
 cases d<;>simp only [sbD,reduceCtorEq] at he
 ·split at he
  ·rename_i a b ha hb;cases he;simp only [evalS,sbA_ok h ha,sbA_ok h hb]
  ·cases he
 ·split at he
  ·rename_i a ha;cases he;simp only [evalS,sbA_ok h ha]
  ·cases he
 ·split at he
  ·rename_i a ha;cases he;simp only [evalS,sbA_ok h ha]
  ·cases he
 ·split at he
  ·rename_i a ha;cases he;simp only [evalS,sbL_ok h ha]
  ·cases he
 ·split at he
  ·rename_i a ha;cases he;simp only [evalS,sbL_ok h ha]
  ·cases he
 ·split at he
  ·rename_i a ha;cases he;simp only [evalS];rw [sbP_ok h ha]
  ·cases he
 ·split at he
  ·rename_i a ha;cases he;simp only [evalS];rw [byt,byt,sbL_ok h ha]
  ·cases he
 ·split at he
  ·rename_i a ha;cases he;simp only [evalS];rw [num,num,sbL_ok h ha,ht]
  ·cases he
 ·split at he
  ·rename_i a ha;cases he;simp only [evalS];rw [num,num,sbL_ok h ha,ht]
  ·cases he
 ·split at he
  ·rename_i a b c ha hb hc;cases he;simp only [evalS,sbA_ok h ha,sbA_ok h hb,sbA_ok h hc]
  ·cases he
 ·split at he
  ·rename_i a ha;cases he;simp only [evalS,sbL_ok h ha,ht]
  ·cases he
def stepZ (look:SDef→Option AVal) (env:TT) (d:SDef):Option AVal:=
 match condD d with
 |some _=>none
 |none=>
  let gen:Option AVal:=match sbD env d with
   |some e=>match foldD e with
    |some a=>some a
    |none=>look e
   |none=>none
  match d with
  |.ite c a b=>match sbA env c with
   |some (.bool true)=>sbA env a
   |some (.bool false)=>sbA env b
   |_=>gen
  |_=>gen
def expandZ (look:SDef→Option AVal):List SDef→Nat→TT→TT
 |[],_,env=>env
 |d::G,i,env=>match stepZ look env d with
  |some a=>expandZ look G (i+1) (env.put i a)
  |none=>expandZ look G (i+1) env
theorem stepZ_ok {σ τ:Sig} {env:TT} {look:SDef→Option AVal} (h:EnvS σ τ env) (ht:σ.tab=τ.tab) (hl: ∀d r,look d=some r→evalS σ d=some (den σ r)) {d:SDef} {i:Nat} (he:condD d=none→evalS τ d=some (den τ (resS d i))) {a:AVal} (hs:stepZ look env d=some a):den σ a=den τ (resS d i):=by
 unfold stepZ at hs
 split at hs
 ·cases hs
 ·rename_i hc
  have he:=he hc
  have gen: ∀b,(match sbD env d with
   |some e=>match foldD e with
    |some a=>some a
    |none=>look e
   |none=>none)=some b→den σ b=den τ (resS d i):=by
   intro b hb
   split at hb
   ·rename_i e hd
    have h1:=sbD_ok h ht hd
    split at hb
    ·rename_i a' ha
     cases hb
     have:=foldD_spec (σ:=σ) ha
     rw [h1,he,Option.some.injEq] at this
     exact this.symm
    ·have:=hl _ _ hb
     rw [h1,he,Option.some.injEq] at this
     exact this.symm
   ·cases hb
  simp only at hs
  split at hs
  ·rename_i c x y
   split at hs
   ·rename_i hcc
    have h1:=sbA_ok h hcc
    simp only [evalS] at he
    rw [←h1] at he
    simp only [den,cond_true,Option.some.injEq] at he
    rw [sbA_ok h hs]
    exact he
   ·rename_i hcc
    have h1:=sbA_ok h hcc
    simp only [evalS] at he
    rw [←h1] at he
    simp only [den,cond_false,Option.some.injEq] at he
    rw [sbA_ok h hs]
    exact he
   ·exact gen _ hs
  ·exact gen _ hs
theorem EnvS.put {σ τ:Sig} {env:TT} (h:EnvS σ τ env) {i:Nat} {a:AVal} {d:SDef} (ha:den σ a=den τ (resS d i)):EnvS σ τ (env.put i a):=by
 refine ⟨fun j b k hb hk=> ?_,fun j b hb hk=> ?_,fun j b hb hk=> ?_⟩<;>rcases TT.get_put _ _ _ _ _ hb with ⟨rfl,rfl⟩|⟨_,h2⟩
 ·obtain ⟨⟨n,hn⟩,_⟩:=sk_i hk σ
  rcases resS_cases d j with ⟨k',e⟩|e|e<;>rw [e,hn] at ha<;>simp only [den,AVal.int.injEq,reduceCtorEq] at ha
  rw [hn,ha.2]
 ·exact h.i j b k h2 hk
 ·obtain ⟨⟨n,hn⟩,_⟩:=sk_b hk σ
  rcases resS_cases d j with ⟨k',e⟩|e|e<;>rw [e,hn] at ha<;>simp only [den,AVal.bool.injEq,reduceCtorEq] at ha
  rw [hn,ha]
 ·exact h.b j b h2 hk
 ·obtain ⟨⟨n,hn⟩,_⟩:=sk_s hk σ
  rcases resS_cases d j with ⟨k',e⟩|e|e<;>rw [e,hn] at ha<;>simp only [den,AVal.str.injEq,reduceCtorEq] at ha
  rw [hn,ha]
 ·exact h.s j b h2 hk
theorem expandZ_ok {σ τ:Sig} {look:SDef→Option AVal} (ht:σ.tab=τ.tab) (hl: ∀d r,look d=some r→evalS σ d=some (den σ r)): ∀{G:List SDef} {i:Nat} {env:TT},EnvS σ τ env→(∀k d,G[k]? =some d→condD d=none→evalS τ d=some (den τ (resS d (i+k))))→EnvS σ τ (expandZ look G i env)
 |[],_,_,h,_=>h
 |d::G,i,env,h,he=>by
  have hr: ∀k e,G[k]? =some e→condD e=none→evalS τ e=some (den τ (resS e (i+1+k))):=fun k e hk hc=>by
   have:=he (k+1) e (by simpa using hk) hc
   rw [show i+1+k=i+(k+1) by omega];exact this
  simp only [expandZ]
  split
  ·rename_i a ha
   exact expandZ_ok ht hl (h.put (stepZ_ok h ht hl (he 0 d rfl) ha)) hr
  ·exact expandZ_ok ht hl h hr
mutual
def sbV (env:TT) (ρ:Nat→Nat):AVal→Option AVal
 |.ptr b o=>some (.ptr (ρ b) o)
 |.slice b o l c e=>some (.slice (ρ b) o l c e)
 |.func fn f c=>match sbVs env ρ f,sbVs env ρ c with
  |some f,some c=>some (.func fn f c)
  |_,_=>none
 |.iface t v=>match sbV env ρ v with
  |some v=>some (.iface t v)
  |none=>none
 |.agg l=>match sbVs env ρ l with
  |some l=>some (.agg l)
  |none=>none
 |.tuple l=>match sbVs env ρ l with
  |some l=>some (.tuple l)
  |none=>none
 |.symi k i=>sbA env (.symi k i)
 |.symb i=>sbA env (.symb i)
 |.syms i=>sbA env (.syms i)
 |.int k n=>some (.int k n)
 |.bool b=>some (.bool b)
 |.str s=>some (.str s)
 |.nilptr=>some .nilptr
 |.nilslice=>some .nilslice
 |.nilmap=>some .nilmap
 |.nilfunc=>some .nilfunc
 |.niliface=>some .niliface
 |.row i=>some (.row i)
 |.crow i=>some (.crow i)
 |.rptr i ix j=>match sbA env ix with
  |some ix=>some (.rptr i ix j)
  |none=>none
 |.junk=>some .junk
 |.lsl b z ap off n=>match sbA env off with
  |some off=>match sbA env n with
   |some n=>some (.lsl (ρ b) z ap off n)
   |none=>none
  |none=>none
 |.lptr b z ix j=>match sbA env ix with
  |some ix=>some (.lptr (ρ b) z ix j)
  |none=>none
 |_=>none
def sbVs (env:TT) (ρ:Nat→Nat):List AVal→Option (List AVal)
 |[]=>some []
 |a::l=>match sbV env ρ a,sbVs env ρ l with
  |some b,some m=>some (b::m)
  |_,_=>none
end
theorem sb_rel {g g2:Inj} {env:TT} (he:EnvS g2.sig g.sig env) {a a':AVal} {v:Value} (h:sbA env a=some a') (hv:VRel g a v):VRel g2 a' v:=by
 have hd:=sbA_ok he h
 unfold sbA at h
 split at h
 ·cases hv;exact den_rel.1 (by rw [hd];exact .int _ _)
 ·cases hv;exact den_rel.1 (by rw [hd];exact .bool _)
 ·cases hv;exact den_rel.1 (by rw [hd];exact .str _)
 ·cases h;cases hv;exact .int _ _
 ·cases h;cases hv;exact .bool _
 ·cases h;cases hv;exact .str _
 ·cases h
mutual
theorem sbV_rel {ρ:Nat→Nat} {g g2:Inj} {env:TT} (hl: ∀i L,g i=some L→g2 (ρ i)=some L) (he:EnvS g2.sig g.sig env) (hx:g2.sig.ext=g.sig.ext): ∀{a a':AVal} {v:Value},VRel g a v→sbV env ρ a=some a'→VRel g2 a' v
 |_,_,_,.bool b,h=>by simp only [sbV,Option.some.injEq] at h;subst h;exact .bool b
 |_,_,_,.int k m,h=>by simp only [sbV,Option.some.injEq] at h;subst h;exact .int k m
 |_,_,_,.float k m,h=>by simp [sbV] at h
 |_,_,_,.str s,h=>by simp only [sbV,Option.some.injEq] at h;subst h;exact .str s
 |_,_,_,.nilptr,h=>by simp only [sbV,Option.some.injEq] at h;subst h;exact .nilptr
 |_,_,_,.ptr b off L h1,h=>by simp only [sbV,Option.some.injEq] at h;subst h;exact .ptr _ off L (hl _ _ h1)
 |_,_,_,.nilslice,h=>by simp only [sbV,Option.some.injEq] at h;subst h;exact .nilslice
 |_,_,_,.slice b off len cap ex o' cap' L h1 h0 h2 h3,h=>by simp only [sbV,Option.some.injEq] at h;subst h;exact .slice _ off len cap ex o' cap' L (hl _ _ h1) h0 h2 h3
 |_,_,_,.nilmap,h=>by simp only [sbV,Option.some.injEq] at h;subst h;exact .nilmap
 |_,_,_,.map _ _ _,h=>by simp [sbV] at h
 |_,_,_,.nilfunc,h=>by simp only [sbV,Option.some.injEq] at h;subst h;exact .nilfunc
 |_,_,_,.func fn f c f' c' h1 h2,h=>by
  simp only [sbV] at h
  split at h
  ·rename_i f2 c2 e1 e2;cases h;exact .func fn _ _ f' c' (sbVs_rel hl he hx h1 e1) (sbVs_rel hl he hx h2 e2)
  ·cases h
 |_,_,_,.niliface,h=>by simp only [sbV,Option.some.injEq] at h;subst h;exact .niliface
 |_,_,_,.iface t v v' h1,h=>by
  simp only [sbV] at h
  split at h
  ·rename_i v2 e;cases h;exact .iface t _ v' (sbV_rel hl he hx h1 e)
  ·cases h
 |_,_,_,.agg l l' h1,h=>by
  simp only [sbV] at h
  split at h
  ·rename_i v2 e;cases h;exact .agg _ l' (sbVs_rel hl he hx h1 e)
  ·cases h
 |_,_,_,.tuple l l' h1,h=>by
  simp only [sbV] at h
  split at h
  ·rename_i v2 e;cases h;exact .tuple _ l' (sbVs_rel hl he hx h1 e)
  ·cases h
 |_,_,_,.symi k i,h=>sb_rel he (by simpa only [sbV] using h) (.symi k i)
 |_,_,_,.symb i,h=>sb_rel he (by simpa only [sbV] using h) (.symb i)
 |_,_,_,.syms i,h=>sb_rel he (by simpa only [sbV] using h) (.syms i)
 |_,_,_,.row i X ao cap h1 h2 h3,h=>by simp only [sbV,Option.some.injEq] at h;subst h;exact .row i X ao cap (by rw [hx];exact h1) h2 h3
 |_,_,_,.crow i X ao h1 h2,h=>by simp only [sbV,Option.some.injEq] at h;subst h;exact .crow i X ao (by rw [hx];exact h1) h2
 |_,_,_,.rptr i ix j m X h1 h2 h3,h=>by
  simp only [sbV] at h
  split at h
  ·rename_i ix2 e;cases h;exact .rptr i _ j m X (by rw [hx];exact h1) (by rw [sbA_ok he e];exact h2) h3
  ·cases h
 |_,_,_,.yield _ _ _,h=>by simp [sbV] at h
 |_,_,_,.junk v h1,h=>by simp only [sbV,Option.some.injEq] at h;subst h;exact .junk v h1
 |_,_,_,.geq _ _ _,h=>by simp [sbV] at h
 |_,_,_,.lsl b z ap off n o m cap ao h1 h2 h3 h4 h5,h=>by
  simp only [sbV] at h
  split at h
  ·rename_i off2 e1
   split at h
   ·rename_i n2 e2
    cases h
    refine .lsl _ z ap _ _ o m cap ao (by rw [sbA_ok he e1];exact h1) (by rw [sbA_ok he e2];exact h2) h3 h4 fun hm=> ?_
    obtain ⟨L,a1,a2,a3⟩:=h5 hm
    exact ⟨L,hl _ _ a1,a2,a3⟩
   ·cases h
  ·cases h
 |_,_,_,.lptr b z ix j m L h1 h2 h3 h4,h=>by
  simp only [sbV] at h
  split at h
  ·rename_i ix2 e1
   cases h
   exact .lptr _ z _ j m L (hl _ _ h1) (by rw [sbA_ok he e1];exact h2) h3 h4
  ·cases h
theorem sbVs_rel {ρ:Nat→Nat} {g g2:Inj} {env:TT} (hl: ∀i L,g i=some L→g2 (ρ i)=some L) (he:EnvS g2.sig g.sig env) (hx:g2.sig.ext=g.sig.ext): ∀{a a':List AVal} {v:List Value},LRel g a v→sbVs env ρ a=some a'→LRel g2 a' v
 |_,_,_,.nil,h=>by simp only [sbVs,Option.some.injEq] at h;subst h;exact .nil
 |_,_,_,.cons a v l m h1 h2,h=>by
  simp only [sbVs] at h
  split at h
  ·rename_i b m2 e1 e2;cases h;exact .cons _ v _ m (sbV_rel hl he hx h1 e1) (sbVs_rel hl he hx h2 e2)
  ·cases h
end
theorem sbVs_get {env:TT} {ρ:Nat→Nat}: ∀{l m:List AVal},sbVs env ρ l=some m→ ∀(i:Nat) (a:AVal),m[i]? =some a→ ∃b,l[i]? =some b∧sbV env ρ b=some a
 |[],m,h,i,a,hi=>by simp only [sbVs,Option.some.injEq] at h;subst h;simp at hi
 |b::l,m,h,i,a,hi=>by
  simp only [sbVs] at h
  split at h
  ·rename_i b' m' e1 e2
   cases h
   cases i with
   |zero=>simp at hi;subst hi;exact ⟨b,rfl,e1⟩
   |succ i=>simpa using sbVs_get e2 i a (by simpa using hi)
  ·cases h
theorem sbVs_len {env:TT} {ρ:Nat→Nat}: ∀{l m:List AVal},sbVs env ρ l=some m→m.length=l.length
 |[],m,h=>by simp only [sbVs,Option.some.injEq] at h;subst h;rfl
 |b::l,m,h=>by
  simp only [sbVs] at h
  split at h
  ·rename_i b' m' e1 e2;cases h;simp [sbVs_len e2]
  ·cases h
theorem rowAt_any {g g2:Inj} {cl:List (Option IntKind)} {S:ByteArray} {m j:Nat} {v:Value} (h:VRel g (rowAtD cl S m j) v):VRel g2 (rowAtD cl S m j) v:=by
 rcases cellD_like cl j (S.data.toList.drop (m*rsz cl)) with ⟨k',n3,_,e3⟩|⟨_,b',e3⟩
 ·have:rowAtD cl S m j=.int k' n3:=e3
  rw [this] at h⊢
  cases h;exact .int _ _
 ·have:rowAtD cl S m j=.bool b':=e3
  rw [this] at h⊢
  cases h;exact .bool _
def sbB (env:TT) (ρ:Nat→Nat):Blk→Option Blk
 |.cells c e=>match sbVs env ρ c with
  |some c=>some (.cells c e)
  |none=>none
 |.lst s n cl e=>match sbA env s with
  |some s=>match sbA env n with
   |some n=>some (.lst s n cl e)
   |none=>none
  |none=>none
 |.gone=>some .gone
 |_=>none
def sbBs (env:TT) (ρ:Nat→Nat):List Blk→Option (List Blk)
 |[]=>some []
 |k::l=>match sbB env ρ k with
  |some k=>match sbBs env ρ l with
   |some l=>some (k::l)
   |none=>none
  |none=>none
theorem sbBs_get {env:TT} {ρ:Nat→Nat}: ∀{l m:List Blk},sbBs env ρ l=some m→ ∀(i:Nat) (k:Blk),m[i]? =some k→ ∃b,l[i]? =some b∧sbB env ρ b=some k
 |[],m,h,i,k,hi=>by simp only [sbBs,Option.some.injEq] at h;subst h;simp at hi
 |b::l,m,h,i,k,hi=>by
  simp only [sbBs] at h
  split at h
  ·rename_i k' e1
   split at h
   ·rename_i m' e2
    cases h
    cases i with
    |zero=>simp at hi;subst hi;exact ⟨b,rfl,e1⟩
    |succ i=>simpa using sbBs_get e2 i k (by simpa using hi)
   ·cases h
  ·cases h
theorem sbBs_len {env:TT} {ρ:Nat→Nat}: ∀{l m:List Blk},sbBs env ρ l=some m→m.length=l.length
 |[],m,h=>by simp only [sbBs,Option.some.injEq] at h;subst h;rfl
 |b::l,m,h=>by
  simp only [sbBs] at h
  split at h
  ·split at h
   ·rename_i m' e2;cases h;simp [sbBs_len e2]
   ·cases h
  ·cases h
theorem sbB_gone {env:TT} {ρ:Nat→Nat} {b k:Blk} (h:sbB env ρ b=some k):b=.gone↔k=.gone:=by
 unfold sbB at h
 split at h
 ·split at h<;>cases h
  simp
 ·split at h
  ·split at h<;>cases h
   simp
  ·cases h
 ·cases h;simp
 ·cases h
theorem sbB_loop {env:TT} {ρ:Nat→Nat} {b:Blk} {la:LoopA} (h:sbB env ρ b=some (.loop la)):False:=by
 unfold sbB at h
 split at h
 ·split at h<;>cases h
 ·split at h
  ·split at h<;>cases h
  ·cases h
 ·cases h
 ·cases h
theorem sbB_none {ρ:Nat→Nat} {g g2:Inj} {env:TT} (he:EnvS g2.sig g.sig env) {b k:Blk} (h:sbB env ρ b=some k) (hn:NoneL g b):NoneL g2 k:=by
 obtain ⟨s,n,cl,e,rfl,d1,d2⟩:=hn
 simp only [sbB] at h
 split at h
 ·rename_i s' hs
  split at h
  ·rename_i n' hn'
   cases h
   exact ⟨s',n',cl,e,rfl,by rw [sbA_ok he hs];exact d1,by rw [sbA_ok he hn'];exact d2⟩
  ·cases h
 ·cases h
theorem sbB_rel {ρ:Nat→Nat} {g g2:Inj} {env:TT} {w:World} {L:Loc} (hl: ∀i L,g i=some L→g2 (ρ i)=some L) (he:EnvS g2.sig g.sig env) (hx:g2.sig.ext=g.sig.ext) {b k:Blk} (h:sbB env ρ b=some k) (hb:BRel g w b L):BRel g2 w k L:=by
 unfold sbB at h
 split at h
 ·split at h
  ·rename_i c e c' hc
   cases h
   obtain ⟨C,fr,k1,k2,k3,k4,k5⟩:=hb
   refine ⟨C,fr,k1,k2,k3,by rw [sbVs_len hc];exact k4,?_⟩
   intro j a hj
   obtain ⟨a0,h0,h1⟩:=sbVs_get hc _ _ hj
   obtain ⟨z,y1,y2,y3⟩:=k5 j a0 h0
   exact ⟨z,y1,sbV_rel hl he hx y2 h1,y3⟩
  ·cases h
 ·rename_i s n cl e
  split at h
  ·rename_i s' hs
   split at h
   ·rename_i n' hn'
    cases h
    obtain ⟨S,N,C,fr,e9,b1,b2,b3,b4,b5,b6,b7,b8⟩:=hb
    refine ⟨S,N,C,fr,e9,by rw [sbA_ok he hs];exact b1,by rw [sbA_ok he hn'];exact b2,b3,b4,b5,by rw [hx];exact b6,b7,fun m j hm hj=> ?_⟩
    obtain ⟨v,v1,v2,v3⟩:=b8 m j hm hj
    exact ⟨v,v1,rowAt_any v2,v3⟩
   ·cases h
  ·cases h
 ·cases h;trivial
 ·cases h
def cellsBs:List Blk→Bool
 |[]=>true
 |.cells _ _::l=>cellsBs l
 |.lst _ _ _ _::l=>cellsBs l
 |_::_=>false
def cellsGs:List Blk→Bool
 |[]=>true
 |.cells _ _::l=>cellsGs l
 |.lst _ _ _ _::l=>cellsGs l
 |.gone::l=>cellsGs l
 |_::_=>false
theorem cellsBs_get: ∀{l:List Blk},cellsBs l=true→ ∀(i:Nat) (k:Blk),l[i]? =some k→(∃c e,k=.cells c e)∨ ∃s n cl e,k=.lst s n cl e
 |[],_,i,k,hi=>by simp at hi
 |b::l,h,0,k,hi=>by
  simp at hi;subst hi
  cases b<;>simp [cellsBs] at h⊢
 |b::l,h,i+1,k,hi=>by
  refine cellsBs_get (l:=l) ?_ i k (by simpa using hi)
  cases b<;>simp [cellsBs] at h⊢ <;>exact h
structure SymF where
 f:FuncId
 m:Nat
 ins:List (Option IntKind)
 args:List AVal
 pre:List Blk
 pcs:List SDef
 G:List SDef
 v:AVal
 post:List Blk
 xs:List AVal:=[]
structure SymFOk (P:Program) (tab:TabF) (inv:Sig→Prop) (e:SymF):Prop where
 len:e.pre.length≤e.post.length
 cpre:cellsBs e.pre=true
 cpost:cellsGs e.post=true
 ok:okG e.G e.m=true
 call: ∀(g:Inj) (w:World) (args':Array Value),g.sig.tab=tab→inv g.sig→Eqs g.sig e.m e.G→InsOk g.sig e.m e.ins→(∀d,d∈e.pcs→evalS g.sig d=some (.bool true))→HRel (cx0 tab) g e.pre w→LRel g e.args args'.toList→
  Calls P e.f args' w fun en w'=> ∃(u:Value) (g1:Inj),en=.returned u∧g1.sig=g.sig∧VRel g1 e.v u∧HRel (cx0 tab) g1 e.post w'∧(∀i,i<e.pre.length→g1 i=g i)∧(∀i L,e.pre.length≤i→g1 i=some L→w.heap.size≤L.blk∨ ∃j M,g j=some M∧M.blk=L.blk)∧
   w.heap.size≤w'.heap.size∧(∀b,b<w.heap.size→(∀i L,g i=some L→L.blk≠b)→w'.heap[b]? =w.heap[b]?)∧w'.os=w.os∧w'.tape=w.tape∧w'.output=w.output
def asgLt (m:Nat):Asg→Bool
 |[]=>true
 |p::l=>Nat.blt p.1 m&&asgLt m l
theorem asgLt_mem {m:Nat}: ∀{l:Asg},asgLt m l=true→ ∀p,p∈l→p.1<m
 |[],_,p,hp=>by cases hp
 |q::l,h,p,hp=>by
  simp only [asgLt,Bool.and_eq_true] at h
  rcases List.mem_cons.1 hp with rfl|hp
  ·simpa using h.1
  ·exact asgLt_mem h.2 p hp
def envF (e:SymF) (l:Asg):TT:=putsT (TT.skel (e.m+e.G.length) 12 0 1) l
def pcOk (look:SDef→Option AVal) (env:TT):List SDef→Bool
 |[]=>true
 |d::l=>(match sbD env d with
  |some e=>match foldD e with
   |some (.bool true)=>true
   |some _=>false
   |none=>match look e with
    |some (.bool true)=>true
    |_=>false
  |none=>false)&&pcOk look env l
theorem pcOk_spec {σ τ:Sig} {env:TT} {look:SDef→Option AVal} (h:EnvS σ τ env) (ht:σ.tab=τ.tab) (hl: ∀d r,look d=some r→evalS σ d=some (den σ r)): ∀{l:List SDef},pcOk look env l=true→ ∀d,d∈l→evalS τ d=some (.bool true)
 |[],_,d,hd=>by cases hd
 |q::l,hp,d,hd=>by
  simp only [pcOk,Bool.and_eq_true] at hp
  rcases List.mem_cons.1 hd with rfl|hd
  ·have h1:=hp.1
   split at h1
   ·rename_i e he
    rw [←sbD_ok h ht he]
    split at h1
    ·rename_i hf;exact foldD_spec hf
    ·cases h1
    ·split at h1
     ·rename_i hk;exact hl _ _ hk
     ·cases h1
   ·cases h1
  ·exact pcOk_spec h ht hl hp.2 d hd
def allLt:List Nat→Nat→Bool
 |[],_=>true
 |x::l,n=>Nat.blt x n&&allLt l n
theorem allLt_mem {n:Nat}: ∀{l:List Nat},allLt l n=true→ ∀x,x∈l→x<n
 |[],_,x,hx=>by cases hx
 |y::l,h,x,hx=>by
  simp only [allLt,Bool.and_eq_true] at h
  rcases List.mem_cons.1 hx with rfl|hx
  ·simpa [Nat.blt_eq] using h.1
  ·exact allLt_mem h.2 x hx
def atmV:AVal→Bool
 |.int _ _=>true
 |.bool _=>true
 |.str _=>true
 |.symi _ _=>true
 |.symb _=>true
 |.syms _=>true
 |_=>false
def atomL:List AVal→Bool
 |[]=>true
 |a::l=>atmV a&&atomL l
def toV:AVal→Value
 |.int k n=> .int k n
 |.bool b=> .bool b
 |.str s=> .string s
 |_=> .nilFunc
theorem atom_val {g:Inj} {a:AVal} (h:atmV a=true):VRel g a (toV (den g.sig a))∧ ∀v,VRel g a v→v=toV (den g.sig a):=by
 cases a<;>simp only [atmV,Bool.false_eq_true] at h
 all_goals exact ⟨by constructor,fun v hv=>by cases hv;rfl⟩
theorem toV_inj {g1 g2:Inj} {a b:AVal} (ha:atmV a=true) (hb:atmV b=true) (h:toV (den g1.sig a)=toV (den g2.sig b)):den g1.sig a=den g2.sig b:=by
 cases a<;>simp only [atmV,Bool.false_eq_true] at ha<;>cases b<;>simp only [atmV,Bool.false_eq_true] at hb<;>simp only [den,toV,Value.int.injEq,Value.bool.injEq,Value.string.injEq,reduceCtorEq] at h<;>simp only [den,h]
theorem atom_eq {g1 g2:Inj}: ∀{l m:List AVal} {vs:List Value},atomL l=true→atomL m=true→LRel g1 l vs→LRel g2 m vs→l.map (den g1.sig)=m.map (den g2.sig)
 |[],[],_,_,_,_,_=>rfl
 |[],_::_,_,_,_,h,k=>by cases h;cases k
 |_::_,[],_,_,_,h,k=>by cases k;cases h
 |a::l,b::m,_,ha,hb,.cons _ v _ vs h1 h2,.cons _ _ _ _ k1 k2=>by
  simp only [atomL,Bool.and_eq_true] at ha hb
  have e1:=toV_inj ha.1 hb.1 (((atom_val ha.1).2 _ h1).symm.trans ((atom_val hb.1).2 _ k1))
  simp only [List.map_cons,e1,atom_eq ha.2 hb.2 h2 k2]
theorem atom_vals {g:Inj}: ∀{l:List AVal},atomL l=true→ ∃vs,LRel g l vs
 |[],_=>⟨[],.nil⟩
 |a::l,h=>by
  simp only [atomL,Bool.and_eq_true] at h
  obtain ⟨vs,hv⟩:=atom_vals (g:=g) h.2
  exact ⟨_::vs,.cons _ _ _ _ (atom_val h.1).1 hv⟩
theorem lrel_split {g:Inj}: ∀{l m:List AVal} {vs us:List Value},l.length=vs.length→LRel g (l++m) (vs++us)→LRel g l vs∧LRel g m us
 |[],m,[],us,_,h=>⟨.nil,h⟩
 |[],m,_::_,us,hl,h=>by simp at hl
 |_::_,m,[],us,hl,h=>by simp at hl
 |a::l,m,v::vs,us,hl,.cons _ _ _ _ h1 h2=>by
  obtain ⟨k1,k2⟩:=lrel_split (by simpa using hl) h2
  exact ⟨.cons _ _ _ _ h1 k1,k2⟩
theorem lrel_both {g:Inj}: ∀{l m:List AVal} {vs us:List Value},LRel g l vs→LRel g m us→LRel g (l++m) (vs++us)
 |[],m,_,us,.nil,h=>h
 |a::l,m,_,us,.cons _ _ _ _ h1 h2,h=> .cons _ _ _ _ h1 (lrel_both h2 h)
def tryM (look:SDef→Option AVal) (kd:Nat→Option IntKind) (ys:List AVal) (e:SymF) (m:List Nat) (args:List AVal) (hp:Hp):Option (AVal×Hp):=
  match (match Nat.beq e.xs.length ys.length&&(atomL e.xs&&atomL ys) with
    |true=>matchL (zs m) (e.xs++e.args) (ys++args)
    |false=>none) with
  |some x=>match matchH (zs m) hp.heap e.pre 0 with
    |some y=>match Nat.beq m.length e.pre.length&&(noTwice (zs m)&&(consB (x++y) (x++y)&&(asgLt e.m (x++y)&&(insAsg kd (x++y) e.ins 0&&pcOk look (expandZ look e.G e.m (envF e (x++y))) e.pcs)))) with
      |true=>match allLt m hp.heap.length with
       |false=>none
       |true=>match sbV (expandZ look e.G e.m (envF e (x++y))) (rho m hp.heap.length) e.v with
        |some v=>match sbBs (expandZ look e.G e.m (envF e (x++y))) (rho m hp.heap.length) e.post with
          |some bs=>some (v,⟨wr m bs hp.heap,m++hp.log⟩)
          |none=>none
        |none=>none
      |false=>none
    |none=>none
  |none=>none
def firstF (look:SDef→Option AVal) (kd:Nat→Option IntKind) (ys:List AVal) (f:FuncId) (args:List AVal) (hp:Hp):List SymF→Option (AVal×Hp)
 |[]=>none
 |e::l=>match Nat.beq f e.f with
  |true=>match tryM look kd ys e (uH hp.heap e.pre 0 (uL [] e.args args)) args hp with
   |some r=>some r
   |none=>firstF look kd ys f args hp l
  |false=>firstF look kd ys f args hp l
theorem firstF_mem {look:SDef→Option AVal} {kd:Nat→Option IntKind} {ys:List AVal} {f:FuncId} {args:List AVal} {hp:Hp} {r:AVal×Hp}: ∀{l:List SymF},firstF look kd ys f args hp l=some r→ ∃e m,e∈l∧e.f=f∧tryM look kd ys e m args hp=some r
 |[],h=>by cases h
 |x::l,h=>by
  simp only [firstF] at h
  have rest:firstF look kd ys f args hp l=some r→ ∃e m,e∈x::l∧e.f=f∧tryM look kd ys e m args hp=some r:=fun h=>
   let ⟨e,m,h1,h2⟩:=firstF_mem h
   ⟨e,m,List.mem_cons_of_mem _ h1,h2⟩
  split at h
  ·rename_i hf
   split at h
   ·rename_i r' hr
    cases h
    exact ⟨x,_,List.mem_cons_self ..,(Nat.eq_of_beq_eq_true hf).symm,hr⟩
   ·exact rest h
  ·exact rest h
def symMfx (kd:Nat→Option IntKind) (ys:List AVal) (tbl:List SymF):MHookF:=fun look f args hp=>firstF look kd ys f args hp tbl
def symMf (kd:Nat→Option IntKind) (tbl:List SymF):MHookF:=symMfx kd [] tbl
theorem mem_symFx {P:Program} {X:Ing} {tbl:List SymF} {ys:List AVal} {inv:Sig→Prop} (h: ∀e,e∈tbl→SymFOk P X.tab inv e) (hT:okLT X.m X.G X.T=true) (hn:X.n=0) (hi: ∀e,e∈tbl→ ∀σ τ:Sig,τ.ext=σ.ext→e.xs.map (den τ)=ys.map (den σ)→X.inv σ→inv τ)
  (F:List Fact) (f:FuncId) (args:List AVal) (hp:Hp) (v:AVal) (hp':Hp) (hm:symMfx (kdX X) ys tbl (symS (baseOf X F)) f args hp=some (v,hp')):CallP P (cxOf X F) f args hp (.val v) hp':=by
 obtain ⟨e,m,hmem,rfl,hm2⟩:=firstF_mem hm
 clear hm
 have hm:=hm2
 clear hm2
 obtain ⟨hlen,hpre,hpost,hG,hc⟩:=h e hmem
 unfold tryM at hm
 split at hm
 ·rename_i x f20
  obtain ⟨f2,hys⟩:matchL (zs m) (e.xs++e.args) (ys++args)=some x∧(Nat.beq e.xs.length ys.length&&(atomL e.xs&&atomL ys))=true:=by
   split at f20
   ·rename_i hc;exact ⟨f20,hc⟩
   ·cases f20
  clear f20
  simp only [Bool.and_eq_true] at hys
  obtain ⟨y1,y2,y3⟩:=hys
  have y1:=Nat.eq_of_beq_eq_true y1
  split at hm
  ·rename_i y f3
   split at hm
   ·rename_i hfit
    split at hm
    ·cases hm
    rename_i hall
    split at hm
    ·rename_i vv hvv
     split at hm
     ·rename_i bs hbs
      cases hm
      simp only [Bool.and_eq_true] at hfit
      obtain ⟨f1,f4,f5,f6,f7,f8⟩:=hfit
      have f1:=Nat.eq_of_beq_eq_true f1
      have hmlt: ∀y,y∈m→y<hp.heap.length:=allLt_mem hall
      have hcell: ∀(j x:Nat),m[j]? =some x→Live hp.heap x:=by
       intro j x hj
       have hlt:j<e.pre.length:=by rw [←f1];exact (List.getElem?_eq_some_iff.1 hj).1
       have hxl:=hmlt x (List.mem_iff_getElem?.2 ⟨j,hj⟩)
       obtain ⟨l,h1,_⟩:=matchH_get e.pre 0 _ f3 j _ (List.getElem?_eq_getElem hlt)
       rw [Nat.zero_add] at h1
       refine ⟨_,List.getElem?_eq_getElem hxl,fun hg=> ?_⟩
       rcases cellsBs_get hpre j _ (List.getElem?_eq_getElem hlt) with ⟨c,t,hk⟩|⟨s,n,cl,t,hk⟩
       ·rw [hk] at h1
        simp only [matchB,zs_of hj,List.getElem?_eq_getElem hxl,hg] at h1
        cases h1
       ·rw [hk] at h1
        simp only [matchB,zs_of hj,List.getElem?_eq_getElem hxl,hg] at h1
        split at h1<;>cases h1
      have hlive: ∀y,y∈m→Live hp.heap y:=by
       intro y hy
       obtain ⟨j,hj⟩:=List.mem_iff_getElem?.1 hy
       exact hcell j y hj
      have hbl:=sbBs_len hbs
      have hlp:m.length≤bs.length:=by rw [hbl,f1];exact hlen
      have hat: ∀j x,m[j]? =some x→(wr m bs hp.heap)[x]? =bs[j]?:=fun j x hj=>wr_at m _ _ j x hlp f4 hmlt hj
      have hback: ∀i,i<hp.heap.length→Live (wr m bs hp.heap) i→Live hp.heap i:=by
       intro i hi hl
       by_cases hin:i∈m
       ·exact hlive i hin
       ·obtain ⟨k,hk,hne⟩:=hl
        rw [wr_old m _ _ i hi hin] at hk
        exact ⟨k,hk,hne⟩
      have hwl:(wr m bs hp.heap).length=hp.heap.length+(e.post.length-m.length):=by rw [wr_len,hbl]
      refine ⟨⟨by show hp.heap.length≤(wr _ _ _).length;omega,⟨m,rfl,fun i hi hn=>wr_old m _ _ i hi hn⟩,hback,fun i la hi hl=> ?_⟩,fun g w args' hH hl=> ?_⟩
      ·by_cases hin:i∈m
       ·obtain ⟨j,hj⟩:=List.mem_iff_getElem?.1 hin
        have hl:(wr m bs hp.heap)[i]? =some (.loop la):=hl
        rw [hat j i hj] at hl
        obtain ⟨b,hb,hbb⟩:=sbBs_get hbs _ _ hl
        exact (sbB_loop hbb).elim
       ·have hl:(wr m bs hp.heap)[i]? =some (.loop la):=hl
        rw [wr_old m _ _ i hi hin] at hl
        exact ⟨la,hl,rfl,rfl,rfl,rfl,rfl⟩
      have hbase:=base_good hT hH.sig.ok.2 hH.sig.ok.1
      have hlook: ∀d r,symS (baseOf X F) d=some r→evalS g.sig d=some (den g.sig r):=fun d r hd=>symS_den hbase hd
      let τ0:Sig:=asgS g.sig (x++y)
      let τ:Sig:=solve e.G e.m τ0
      have ag:=agree_solve e.G e.m τ0
      have hext:τ.ext=g.sig.ext:=ag.ext.symm
      have htab:τ.tab=X.tab:=by rw [←ag.tab];exact hH.sig.ok.2.tab
      have hfit0:Fits g.sig τ0 (x++y):=by
       have:=fits_asg (σ:=g.sig) [] f5
       simpa using this
      have hfit:Fits g.sig τ (x++y):=by
       intro p hp
       have hlt:=asgLt_mem f6 p hp
       obtain ⟨h1,h2,h3⟩:=hfit0 p hp
       obtain ⟨a1,a2,a3⟩:=ag.val p.1 hlt
       exact ⟨fun k n hn=>by rw [←a1];exact h1 k n hn,fun b hb=>by rw [←a2];exact h2 b hb,fun s hs=>by rw [←a3];exact h3 s hs⟩
      have henv:EnvS g.sig τ (envF e (x++y)):=by
       have hin: ∀i a,(envF e (x++y)).get i=some a→(i,a)∈x++y:=by
        intro i a hi
        rcases putsT_get _ _ hi with h|h
        ·exact h
        ·rw [TT.get_skel] at h;cases h
       refine ⟨fun i a k hi hk=> ?_,fun i a hi hk=> ?_,fun i a hi hk=> ?_⟩
       ·obtain ⟨⟨n,hn⟩,_⟩:=sk_i hk g.sig
        have hn':den g.sig a=.int k n:=hn
        rw [hn',(hfit (i,a) (hin i a hi)).1 k n hn']
       ·obtain ⟨⟨n,hn⟩,_⟩:=sk_b hk g.sig
        have hn':den g.sig a=.bool n:=hn
        rw [hn',(hfit (i,a) (hin i a hi)).2.1 n hn']
       ·obtain ⟨⟨n,hn⟩,_⟩:=sk_s hk g.sig
        have hn':den g.sig a=.str n:=hn
        rw [hn',(hfit (i,a) (hin i a hi)).2.2 n hn']
      have heq:Eqs τ e.m e.G:=eqs_solve hG
      have htt:g.sig.tab=τ.tab:=by rw [htab];exact hH.sig.ok.2.tab
      have henv2:EnvS g.sig τ (expandZ (symS (baseOf X F)) e.G e.m (envF e (x++y))):=expandZ_ok htt hlook henv fun k d hk hcd=>heq.at k d hk hcd
      have hins:InsOk τ e.m e.ins:=by
       intro i k hlt hik
       have hik':e.ins[i]? =some (some k):=by
        cases hc:e.ins[i]? with
        |none=>rw [hc] at hik;cases hik
        |some o=>rw [hc] at hik;simp only [Option.getD_some] at hik;rw [hik]
       obtain ⟨a,h1,h2⟩:=insAsg_get f7 i k hik'
       rw [Nat.zero_add] at h1
       obtain ⟨n,h3,h4⟩:=inK_spec (fun i k h=>kdX_spec hH.sig.ok.2.eqs hH.sig.ok.2.ins hH.sig.ok.2.kt i k h) h2
       have:τ0.ival i=n:=by
        simp only [τ0,asgS,h1]
        cases a<;>simp only [inK,Bool.false_eq_true] at h2<;>simp only [valS,h3,iOf]
       rw [←(ag.val i hlt).1,this];exact h4
      have hpc:=pcOk_spec henv2 htt hlook f8
      have R:HRel (cx0 X.tab) (moved (zs m) g τ) e.pre w:=rematch hH rfl (cx0_good htab) (by rw [zs_len,f1]) f4 f3 (fun p hp=>hfit p (by simp [hp])) hext
      have hmv: ∀j L,moved (zs m) g τ j=some L→ ∃x,m[j]? =some x∧g x=some L:=by
       intro j L hj
       obtain ⟨x,sh,L',h1,h2,rfl⟩:=moved_from hj
       obtain ⟨h3,rfl⟩:=zs_get h1
       exact ⟨x,h3,h2⟩
      obtain ⟨yv,hyv⟩:=atom_vals (g:=g) y3
      have hboth:LRel (moved (zs m) g τ) (e.xs++e.args) (yv++args'.toList):=matchL_sound (moved_moves (zs m) g τ hext) _ _ x _ f2 (fun p hp=>hfit p (by simp [hp])) (lrel_both hyv hl)
      obtain ⟨hxs,hargs⟩:=lrel_split (by rw [y1];exact hyv.length) hboth
      have hxe:e.xs.map (den τ)=ys.map (den g.sig):=atom_eq (g1:=moved (zs m) g τ) (g2:=g) y2 y3 hxs hyv
      refine (hc (moved (zs m) g τ) w args' htab (hi e hmem _ _ hext hxe hH.sig.ok.2.inv) heq hins hpc R hargs).mono ?_
      rintro en w' ⟨u,g1,rfl,hs1,hu,hP,hsame,hnew,hsz,hfr,hos,htp,hout⟩
      have hs1:g1.sig=τ:=hs1
      have hgn: ∀i L,g i=some L→i<hp.heap.length:=fun i L hi=>(hH.dom i L hi).1
      let g2:Inj:=⟨fun i=>if i<hp.heap.length then g i else g1 (i-hp.heap.length+m.length),g.sig,g.mp⟩
      have lo: ∀i,i<hp.heap.length→g2 i=g i:=fun i hi=>by show (if i<hp.heap.length then g i else _)=_;rw [if_pos hi]
      have hi': ∀i,¬i<hp.heap.length→g2 i=g1 (i-hp.heap.length+m.length):=fun i hi=>by show (if i<hp.heap.length then g i else _)=_;rw [if_neg hi]
      have hsub:Sub g g2:=⟨fun i L hi=>by rw [lo i (hgn i L hi)];exact hi,rfl,fun _ _ h=>h⟩
      have hold: ∀j L,j<m.length→g1 j=some L→ ∃x,m[j]? =some x∧g x=some L:=by
       intro j L hj h1
       rw [hsame j (by rw [←f1];exact hj)] at h1
       exact hmv j L h1
      have hren: ∀i L,g1 i=some L→g2 (rho m hp.heap.length i)=some L:=by
       intro i L h1
       by_cases hlt:i<m.length
       ·obtain ⟨x,hx,hgx⟩:=hold i L hlt h1
        have:rho m hp.heap.length i=x:=by simp [rho,hx]
        rw [this,lo x (hgn x L hgx)];exact hgx
       ·have:rho m hp.heap.length i=i-m.length+hp.heap.length:=by simp [rho,List.getElem?_eq_none (by omega:m.length≤i)]
        rw [this,hi' _ (by omega),show i-m.length+hp.heap.length-hp.heap.length+m.length=i by omega]
        exact h1
      have hfresh: ∀i L,¬i<hp.heap.length→g2 i=some L→w.heap.size≤L.blk∨ ∃x M,x∈m∧g x=some M∧M.blk=L.blk:=by
       intro i L hlt h2
       rw [hi' i hlt] at h2
       rcases hnew _ L (by rw [←f1];omega) h2 with h3|⟨j,M,h3,h4⟩
       ·exact .inl h3
       ·obtain ⟨x,hx,hgx⟩:=hmv j M h3
        exact .inr ⟨x,M,List.mem_iff_getElem?.2 ⟨_,hx⟩,hgx,h4⟩
      have hlv2: ∀i,¬i<hp.heap.length→Live (wr m bs hp.heap) i→Live e.post (i-hp.heap.length+m.length):=by
       rintro i h1 ⟨k,hk,hne⟩
       rw [show i=hp.heap.length+(i-hp.heap.length) by omega,wr_new m _ _ _ hlp] at hk
       obtain ⟨b,hb2,hbb⟩:=sbBs_get hbs _ _ hk
       exact ⟨b,by rw [Nat.add_comm];exact hb2,fun hg=>hne ((sbB_gone hbb).1 hg)⟩
      have hapart: ∀i j L M,i<hp.heap.length→ ¬j<hp.heap.length→g i=some L→g2 j=some M→L.blk=M.blk→Live (wr m bs hp.heap) i→Live (wr m bs hp.heap) j→False:=by
       intro i j L M h1 h2 hi hj hb li lj
       rcases hfresh j M h2 hj with h3|⟨x,N,hx,hgx,hN⟩
       ·have a1:=(hH.dom i L hi).2
        omega
       ·have hxi:=hH.inj i x L N hi hgx (by rw [hb,hN]) (hback i h1 li) (hlive x hx)
        subst hxi
        obtain ⟨q,hq⟩:=List.mem_iff_getElem?.1 hx
        have hql:q<m.length:=(List.getElem?_eq_some_iff.1 hq).1
        have lq:Live e.post q:=by
         obtain ⟨k,hk,hne⟩:=li
         rw [hat q i hq] at hk
         obtain ⟨b,hb2,hbb⟩:=sbBs_get hbs _ _ hk
         exact ⟨b,hb2,fun hg=>hne ((sbB_gone hbb).1 hg)⟩
        have lj2:=hlv2 j h2 lj
        have hgq:g1 q=some L:=by
         rw [hsame q (by rw [←f1];exact hql)]
         have:=(moved_moves (zs m) g τ hext).1 q i 0 L (zs_of hq) hi
         rw [this];rfl
        rw [hi' j h2] at hj
        have:=hP.inj q _ L M hgq hj hb lq lj2
        omega
      have hkeep: ∀b,b<w.heap.size→(∀x L,x∈m→g x=some L→L.blk≠b)→w'.heap[b]? =w.heap[b]?:=by
       intro b hb hno
       refine hfr b hb fun i L hiL=> ?_
       obtain ⟨x,hx,hgx⟩:=hmv i L hiL
       exact hno x L (List.mem_iff_getElem?.2 ⟨_,hx⟩) hgx
      have he2:EnvS g2.sig g1.sig (expandZ (symS (baseOf X F)) e.G e.m (envF e (x++y))):=by rw [hs1];exact henv2
      have hx2:g2.sig.ext=g1.sig.ext:=by rw [hs1];exact hext.symm
      refine ⟨g2,⟨u,rfl,sbV_rel hren he2 hx2 hu hvv⟩,⟨?_,?_,?_,?_,hH.sig,?_⟩,?_⟩
      ·intro i L hi
       show i<(wr _ _ _).length∧_
       by_cases hlt:i<hp.heap.length
       ·rw [lo i hlt] at hi
        have:=hH.dom i L hi
        exact ⟨by rw [hwl];omega,by omega⟩
       ·rw [hi' i hlt] at hi
        have:=hP.dom _ L hi
        exact ⟨by rw [hwl];omega,this.2⟩
      ·intro i j L M hi hj hb li lj
       by_cases h1:i<hp.heap.length<;>by_cases h2:j<hp.heap.length
       ·rw [lo i h1] at hi;rw [lo j h2] at hj
        exact hH.inj i j L M hi hj hb (hback i h1 li) (hback j h2 lj)
       ·rw [lo i h1] at hi
        exact (hapart i j L M h1 h2 hi hj hb li lj).elim
       ·rw [lo j h2] at hj
        exact (hapart j i M L h2 h1 hj hi hb.symm lj li).elim
       ·have l1:=hlv2 i h1 li
        have l2:=hlv2 j h2 lj
        rw [hi' i h1] at hi;rw [hi' j h2] at hj
        have:=hP.inj _ _ L M hi hj hb l1 l2
        omega
      ·intro i k hi hk
       have hi:(wr m bs hp.heap)[i]? =some k:=hi
       by_cases h1:i<hp.heap.length
       ·by_cases hin:i∈m
        ·obtain ⟨j,hj⟩:=List.mem_iff_getElem?.1 hin
         rw [hat j i hj] at hi
         obtain ⟨b,hb,hbb⟩:=sbBs_get hbs _ _ hi
         rcases hP.blk0 _ _ hb (fun hg=>hk ((sbB_gone hbb).1 hg)) with hz|⟨L,hL,hBr⟩
         ·exact .inl (sbB_none he2 hbb hz)
         have hjl:j<m.length:=(List.getElem?_eq_some_iff.1 hj).1
         obtain ⟨x,hx,hgx⟩:=hold j L hjl hL
         rw [hj] at hx;cases hx
         exact .inr ⟨L,by rw [lo i h1];exact hgx,sbB_rel hren he2 hx2 hbb hBr⟩
        ·rw [wr_old m _ _ i h1 hin] at hi
         rcases hH.blk0 i k hi hk with hz|⟨L,hL,hBr⟩
         ·exact .inl (hz.mono rfl)
         refine .inr ⟨L,by rw [lo i h1];exact hL,(hBr.of_same (hkeep L.blk (hH.dom i L hL).2 fun x M hx hgx hbb=> ?_)).mono hsub⟩
         have:=hH.inj x i M L hgx hL hbb (hlive x hx) ⟨k,hi,hk⟩
         exact hin (this▸hx)
       ·have hnl:i=hp.heap.length+(i-hp.heap.length):=by omega
        rw [hnl,wr_new m _ _ _ hlp] at hi
        obtain ⟨b,hb,hbb⟩:=sbBs_get hbs _ _ hi
        rcases hP.blk0 _ _ hb (fun hg=>hk ((sbB_gone hbb).1 hg)) with hz|⟨L,hL,hBr⟩
        ·exact .inl (sbB_none he2 hbb hz)
        refine .inr ⟨L,by rw [hi' i h1,show i-hp.heap.length+m.length=m.length+(i-hp.heap.length) by omega];exact hL,sbB_rel hren he2 hx2 hbb hBr⟩
      ·intro i hi
       have:(cxOf X F).n=0:=hn
       omega
      ·refine ⟨fun i Y hi hY=> ?_,fun i Y hi=> ?_,fun i Y h0 hi=>Nat.lt_of_lt_of_le (hH.frz.top i Y h0 hi) hsz⟩
       ·have f:=hH.frz.row i Y hi hY
        refine ⟨f.1.of_same (hkeep _ f.1.lt fun x M hx hgx=>f.2 x M hgx (hlive x hx)),fun j N hj lj=> ?_⟩
        by_cases h1:j<hp.heap.length
        ·rw [lo j h1] at hj
         exact f.2 j N hj (hback j h1 lj)
        ·rcases hfresh j N h1 hj with a1|⟨x,M,hx,hgx,hM⟩
         ·have a2:=f.1.lt
          omega
         ·rw [←hM];exact f.2 x M hgx (hlive x hx)
       ·have f:=hH.frz.mp i Y hi
        refine ⟨by show i<(wr _ _ _).length;rw [hwl];omega,f.2.1.of_same (hkeep _ f.2.1.lt fun x M hx hgx=>f.2.2 x M hgx (hlive x hx)),fun j N hj lj=> ?_⟩
        by_cases h1:j<hp.heap.length
        ·rw [lo j h1] at hj
         exact f.2.2 j N hj (hback j h1 lj)
        ·rcases hfresh j N h1 hj with a1|⟨x,M,hx,hgx,hM⟩
         ·have a2:=f.2.1.lt
          omega
         ·rw [←hM];exact f.2.2 x M hgx (hlive x hx)
      ·refine ⟨hsub,?_,fun i Y hi hn=> ?_,by show _≤(wr _ _ _).length;omega,hback,hsz,fun b hb hno=>hkeep b hb fun x L hx hgx=>hno x L hgx (hlive x hx),hos,htp,hout⟩
       ·intro i L hi hn
        by_cases h1:i<hp.heap.length
        ·rw [lo i h1] at hi;rw [hn] at hi;cases hi
        ·exact ⟨by omega,(hfresh i L h1 hi).imp id fun ⟨x,M,hx,hgx,hM⟩=>⟨x,M,hgx,hM,hlive x hx⟩⟩
       ·exact absurd hi (by show¬g.mp i=some Y;rw [hn];simp)
     ·cases hm
    ·cases hm
   ·cases hm
  ·cases hm
 ·cases hm
theorem mem_symF {P:Program} {X:Ing} {tbl:List SymF} {inv:Sig→Prop} (h: ∀e,e∈tbl→SymFOk P X.tab inv e) (hT:okLT X.m X.G X.T=true) (hn:X.n=0) (hi: ∀σ τ:Sig,τ.ext=σ.ext→X.inv σ→inv τ)
  (F:List Fact) (f:FuncId) (args:List AVal) (hp:Hp) (v:AVal) (hp':Hp) (hm:symMf (kdX X) tbl (symS (baseOf X F)) f args hp=some (v,hp')):CallP P (cxOf X F) f args hp (.val v) hp':=
 mem_symFx h hT hn (fun _ _ σ τ he _ hv=>hi σ τ he hv) F f args hp v hp' hm
def MemR (tab:TabF) (e:SymF) (g:Inj) (w:World) (en:Ending) (w':World):Prop:=
 ∃(u:Value) (g1:Inj),en=.returned u∧g1.sig=g.sig∧VRel g1 e.v u∧HRel (cx0 tab) g1 e.post w'∧(∀i,i<e.pre.length→g1 i=g i)∧(∀i L,e.pre.length≤i→g1 i=some L→w.heap.size≤L.blk∨ ∃j M,g j=some M∧M.blk=L.blk)∧
   w.heap.size≤w'.heap.size∧(∀b,b<w.heap.size→(∀i L,g i=some L→L.blk≠b)→w'.heap[b]? =w.heap[b]?)∧w'.os=w.os∧w'.tape=w.tape∧w'.output=w.output
def fraOf (g:Inj) (w:World) (n:Nat):Fra where
 w:=w
 own:=fun b=>w.heap.size≤b∨ ∃i L,g i=some L∧L.blk=b
 new:=fun _ h=> .inl h
 pin:=fun i=>if i<n then some (g.loc i) else none
def idE (e:SymF):Option Asg:=
 match matchV (idF e.post.length 0) e.v e.v,matchH (idF e.post.length 0) e.post e.post 0 with
 |some x,some y=>some (x++y)
 |_,_=>none
def DenEq (σ τ:Sig):Asg→Prop
 |[]=>True
 |p::r=>den σ p.2=den τ p.2∧DenEq σ τ r
theorem denEq_fits {σ τ:Sig} {M:Nat}: ∀{l:Asg},idAsg M l=true→DenEq σ τ l→Fits σ τ l
 |[],_,_=>fun p hp=>by cases hp
 |q::l,hl,hd=>by
  simp only [idAsg,Bool.and_eq_true] at hl
  intro p hp
  rcases List.mem_cons.1 hp with rfl|hp
  ·have h1:=hl.1
   have h2:=hd.1
   split at h1
   all_goals first
    |cases h1
    |skip
   all_goals
    rename_i hx
    simp only [Bool.and_eq_true] at h1
    have e:=Nat.eq_of_beq_eq_true h1.1
    rw [hx] at h2⊢
    rw [←e] at h2⊢
    refine ⟨fun k n hn=> ?_,fun b hn=> ?_,fun s hn=> ?_⟩<;>rw [h2] at hn<;>simp only [den,AVal.int.injEq,AVal.bool.injEq,AVal.str.injEq,reduceCtorEq] at hn
    first
     |exact hn.2
     |exact hn
  ·exact denEq_fits hl.2 hd.2 p hp
theorem endZ_mem {P:Program} {tab:TabF} {n M:Nat} {fn:Func} {e:SymF} {g:Inj} {w:World} {SE:Shape} {vs:List AVal} {σ:Sig} {x:SEx} {l:Asg} (hSE:resA P (tmOf SE n) SE.heap fn.results.toList=some vs) (hv:packA vs=e.v) (hp:SE.heap=e.post)
  (hH:HRel (cx0 tab) g e.pre w) (ht:g.sig.tab=tab) (hcp:cellsBs e.pre=true) (hc:cellsGs e.post=true) (hid:idE e=some l) (hidl:idAsg M l=true) (hnt:noTwice (idF e.post.length 0)=true) (hd:DenEq σ g.sig l) (hlen2:e.pre.length≤e.post.length) (hext:σ.ext=g.sig.ext) (hx:x=.ret∨x=.normal):
  EndZ tab n (fraOf g w e.pre.length) (bodyPost P fn (MemR tab e g w)) x SE σ:=by
 intro en a w' hxe hA
 obtain ⟨g',rfl,hH',hT,hO,hP⟩:=hA.ex
 have hT1:TRel g' (tmOf SE n) a:=by
  refine ⟨by simp only [tmOf,hA.size];exact Nat.le_refl _,?_⟩
  intro i v hv
  exact hT _ (tmOf_get hv)
 obtain ⟨u,hres,h2⟩:=results_run hH' hT1 hSE
 rw [hv] at h2
 rw [hp] at hH'
 have hfit:=denEq_fits hidl hd
 unfold idE at hid
 split at hid
 ·rename_i lx ly hlx hly
  cases hid
  have R:HRel (cx0 tab) (moved (idF e.post.length 0) g' g.sig) e.post w':=rematch hH' rfl (cx0_good ht) (idF_length _ _) hnt hly hfit.right hext.symm
  have hmv: ∀i,i<e.post.length→moved (idF e.post.length 0) g' g.sig i=g' i:=by
   intro i hi
   have h0:(idF e.post.length 0)[i]? =some (i,0):=by simpa using idF_at (i:=0) hi
   cases hg:g' i with
   |none=>simp only [moved,h0,hg,Option.map_none]
   |some L=>simp only [moved,h0,hg,Option.map_some,shift,Nat.add_zero,Nat.sub_zero]
  have hR:MemR tab e g w (.returned u) w':=by
   refine ⟨u,moved (idF e.post.length 0) g' g.sig,rfl,rfl,matchV_sound (moved_moves _ g' _ hext.symm) e.v e.v lx u hlx hfit.left h2,R,fun i hi=> ?_,fun i L hi hL=> ?_,hA.below.size,fun b hb hno=>hA.below.frame b hb ?_,hA.below.os,hA.below.tape,hA.below.output⟩
   ·have h3:=(hP i (g.loc i) (by show (if i<e.pre.length then some (g.loc i) else none)=_;rw [if_pos hi])).2
    rw [hmv i (by have:=hlen2;omega),h3]
   ·have hlt:=(R.dom i L hL).1
    rw [hmv i hlt] at hL
    rcases hO i L hL with h3|⟨j,N,hj,hb⟩
    ·exact .inl h3
    ·exact .inr ⟨j,N,hj,hb⟩
   ·rintro (h3|⟨i,L,hi,h3⟩)
    ·exact absurd h3 (by omega)
    ·exact hno i L hi h3
  have:a.defers=[]∧ ∃v,(results fn a.tmps).run P w'=.ok v w'∧MemR tab e g w (.returned v) w':=⟨hA.defers,_,hres,hR⟩
  cases en with
  |normal=>exact this
  |ret=>exact this
  |_=>rcases hx with rfl|rfl<;>exact hxe.elim
 ·cases hid
theorem symF_of_stage {P:Program} {tab:TabF} {inv:Sig→Prop} {e:SymF} {fn:Func} {n:Nat} (hf:P.funcs[e.f]? =some fn) (hb:fn.body=some (bodyOf fn)) (hn:fn.ntmps=n) (hna:e.args.length≤n)
  (hlen:e.pre.length≤e.post.length) (hcp:cellsBs e.pre=true) (hc:cellsGs e.post=true) (hG:okG e.G e.m=true)
  (h: ∀(g:Inj) (w:World),g.sig.tab=tab→inv g.sig→Eqs g.sig e.m e.G→InsOk g.sig e.m e.ins→(∀d,d∈e.pcs→evalS g.sig d=some (.bool true))→HRel (cx0 tab) g e.pre w→
   Stage P tab n (fraOf g w e.pre.length) (bodyPost P fn (MemR tab e g w)) (flatC (bodyOf fn)) ⟨argT 0 e.args,e.pre⟩ e.m e.ins (fun σ=>Agree e.m g.sig σ)):SymFOk P tab inv e:=by
 refine ⟨hlen,hcp,hc,hG,fun g w args' ht hi he hins hpc hH ha=> ?_⟩
 refine calls_body hf hb ?_
 rw [hn]
 have hal:args'.size≤n:=by
  have:=ha.length
  simp only [Array.length_toList] at this
  omega
 have hA0:At tab ⟨argT 0 e.args,e.pre⟩ n g.sig (fraOf g w e.pre.length) {tmps:=args'++Array.replicate (n-args'.size) undef,defers:=[]} w:=by
  refine ⟨⟨g,rfl,hH,?_,fun i L hi=> .inr ⟨i,L,hi,rfl⟩,fun i x hi=> ?_⟩,BelowF.refl (fraOf g w e.pre.length),by simp;omega,rfl⟩
  ·intro p hp
   obtain ⟨j,h1,h2⟩:=argT_get _ _ _ hp
   obtain ⟨u,k1,k2⟩:=ha.get j p.2 h2
   refine ⟨u,?_,k2⟩
   have hlt:j<args'.size:=by
    have:=(List.getElem?_eq_some_iff.1 k1).1
    simpa using this
   rw [h1,Nat.zero_add,Array.getElem?_append_left hlt]
   simpa using k1
  ·by_cases hlt:i<e.pre.length
   ·have hi:(if i<e.pre.length then some (g.loc i) else none)=some x:=hi
    rw [if_pos hlt] at hi
    cases hi
    exact ⟨hlt,rfl⟩
   ·have hi:(if i<e.pre.length then some (g.loc i) else none)=some x:=hi
    rw [if_neg hlt] at hi
    cases hi
 have:=flat_wp _ (h g w ht hi he hins hpc hH _ _ g.sig hA0 hins ⟨fun _ _=>⟨rfl,rfl,rfl⟩,rfl,rfl⟩ ht)
 rwa [then_self] at this
end Go.Ev
namespace Go.Ev
open Go.RowKit
set_option linter.unusedVariables false
set_option linter.unusedSimpArgs false
structure RowE (E:Nat→Option Fz) (X:Fz) (σ:Sig):Prop where
 ext:σ.ext=E
 len:σ.ival 1=X.len
 lo:0≤σ.ival 0
 hi:σ.ival 0≤X.len
def RowEEl (q:Nat) (cl:List Cl) (E:Nat→Option Fz) (X:Fz) (τ:Sig):Prop:= ∃σ,Agree (q+cl.length) (elSig σ q X) τ∧RowE E X σ
theorem RowEEl.agree {E:Nat→Option Fz} {cl:List Cl} {X:Fz} {q:Nat} {σ τ:Sig} (ag:Agree (q+cl.length) σ τ) (h:RowEEl q cl E X σ):RowEEl q cl E X τ:=by
 obtain ⟨υ,ag0,hd⟩:=h
 exact ⟨υ,ag0.trans' ag,hd⟩
theorem RowEEl.hd {E:Nat→Option Fz} {cl:List Cl} {X:Fz} {q:Nat} (h2:2≤q) {τ:Sig} (h:RowEEl q cl E X τ):RowE E X τ:=by
 obtain ⟨σ,ag,he,h1,h0,h3⟩:=h
 refine ⟨by rw [←ag.ext];exact he,?_,?_,?_⟩
 ·rw [←(ag.val 1 (by omega)).1];simp [elSig,show 1<q by omega,h1]
 ·rw [←(ag.val 0 (by omega)).1];simp [elSig,show 0<q by omega,h0]
 ·rw [←(ag.val 0 (by omega)).1];simp [elSig,show 0<q by omega,h3]
theorem RowEEl.rows {E:Nat→Option Fz} {W:World} {cl:List Cl} {v:Value} {X:Fz} (hX:RowV W cl v X) (hE: ∀Y,E 0=some Y→Y=X) {q:Nat} (h2q:2≤q) {τ:Sig} (h:RowEEl q cl E X τ):RowsOk τ [⟨.symi .i64 1,[(.symi .i64 0,elCells q cl)]⟩]:=by
 obtain ⟨σ,ag,he,h1,h0,_⟩:=h
 intro i r Y hr hY
 have hr0:i=0:=by
  cases i with
  |zero=>rfl
  |succ i=>simp at hr
 subst hr0
 rw [←ag.ext] at hY
 have hY:σ.ext 0=some Y:=hY
 rw [he] at hY
 have hY:=hE Y hY
 subst hY
 simp only [List.getElem?_cons_zero,Option.some.injEq] at hr
 subst hr
 have t0:τ.ival 0=σ.ival 0:=by rw [←(ag.val 0 (by omega)).1];simp [elSig,show 0<q by omega]
 have t1:τ.ival 1=σ.ival 1:=by rw [←(ag.val 1 (by omega)).1];simp [elSig,show 1<q by omega]
 refine ⟨by show AVal.int .i64 (τ.ival 1)=_;rw [t1,h1],fun p hp m hm hlt=> ?_⟩
 simp only [List.mem_singleton] at hp
 subst hp
 have hm:τ.ival 0=(m:Int):=by simpa [den] using hm
 rw [t0] at hm
 have hmN:(σ.ival 0).toNat=m:=by omega
 refine ⟨by rw [elCells_length];exact hX.z.symm,fun j c hc=> ?_⟩
 obtain ⟨z,hz,rfl⟩:=elCells_get q cl j c hc
 have hj:j<cl.length:=(List.getElem?_eq_some_iff.1 hz).1
 obtain ⟨n,h3,h4⟩:=el_get (hX.els _ hlt) hz
 have hnq: ¬(q+j<q):=by omega
 cases z with
 |i k=>
  simp only [den]
  rw [←(ag.val (q+j) (by omega)).1]
  simp only [elSig,hnq,if_false,hmN,hlt,if_true,Nat.add_sub_cancel_left]
  rw [h4];rfl
 |b=>
  simp only [den]
  rw [←(ag.val (q+j) (by omega)).2.1]
  simp only [elSig,hnq,if_false,hmN,hlt,if_true,Nat.add_sub_cancel_left]
  rw [h4];rfl
def InvF {ι:Type} (tab:TabF) (n:Nat) (W0:Fra) (S:ι→Shape) (q:Nat) (ins:List (Option IntKind)) (J:ι→Sig→Prop) (μ:Sig→Nat):Nat→Act→World→Prop:=
 fun k a w=> ∃i σ,At tab (S i) n σ W0 a w∧InsOk σ q ins∧J i σ∧σ.tab=tab∧k=μ σ
theorem EndZ.loopF {ι:Type} {P:Program} {tab:TabF} {n:Nat} {W0:Fra} {Z:Exit→Act→World→Prop} {id:Nat} {c2:List Code} {S:ι→Shape} {q:Nat} {ins:List (Option IntKind)} {J:ι→Sig→Prop} {μ:Sig→Nat} {k:Nat} {σ:Sig} {s:Shape} (i:ι) (hs:s=S i)
  (hi:InsOk σ q ins) (hj:J i σ) (ht:σ.tab=tab) (hk:μ σ<k):EndZ tab n W0 (LoopZ P id c2 Z (InvF tab n W0 S q ins J μ) k) .normal s σ:=by
 subst hs
 intro e a w hxe hA
 cases e<;>simp only [SExRel] at hxe
 exact .inl ⟨rfl,μ σ,hk,i,σ,hA,hi,hj,ht,rfl⟩
theorem Stage.rowLoopF {ι:Type} {P:Program} {tab:TabF} {n:Nat} {W0:Fra} {WX:World} {Z:Exit→Act→World→Prop} {b:Code} {id:Nat} {c2:List Code} {S:ι→Shape} {q:Nat} {insq:List (Option IntKind)} {J:ι→Sig→Prop} {cl:List Cl} {v:Value} {X:Fz} {E:Nat→Option Fz} (hX:RowV WX cl v X)
  (hq:insq.length=q) (h2:2≤q) (hid: ∀i,idOk (S i) q=true) (hJ: ∀i σ τ,Agree q σ τ→J i σ→J i τ)
  (body: ∀k i,Stage P tab n W0 (LoopZ P id c2 Z (InvF tab n W0 S q insq (fun i σ=>RowE E X σ∧J i σ) (fun σ=>((X.len:Int)-σ.ival 0).toNat)) k) [b] (S i) (q+cl.length) (insq++cl.map kindC) (fun τ=>RowEEl q cl E X τ∧J i τ∧((X.len:Int)-τ.ival 0).toNat=k)) (i0:ι):
  Stage P tab n W0 Z (.block id (.loop b)::c2) (S i0) q insq (fun σ=>RowE E X σ∧J i0 σ):=by
 intro a w σ hA hi hj ht
 show (Code.block id (.loop b)).wpIn (FR none) 0 P _ a w
 refine wpIn_block ?_
 refine loop_at (Inv:=InvF tab n W0 S q insq (fun i σ=>RowE E X σ∧J i σ) (fun σ=>((X.len:Int)-σ.ival 0).toNat)) ?_ _ a w ⟨i0,σ,hA,hi,hj,ht,rfl⟩
 clear hA hi hj ht a w
 rintro k a w ⟨i,σ,hA,hi,hj,ht,rfl⟩
 have ag:=elSig_agree σ q X
 have h0:(elSig σ q X).ival 0=σ.ival 0:=by simp [elSig,show 0<q by omega]
 have:=body _ i a w (elSig σ q X) (hA.agree (hid i) ag) (elSig_ins hX hq hi) ⟨⟨σ,⟨fun _ _=>⟨rfl,rfl,rfl⟩,rfl,rfl⟩,hj.1⟩,hJ _ _ _ ag hj.2,by rw [h0]⟩ ht
 simp only [chainK] at this
 rwa [then_self] at this
end Go.Ev
namespace Go.Ev
open Go.RowKit
set_option linter.unusedVariables false
set_option linter.unusedSimpArgs false
theorem wr_i64 (n:Int):IntKind.i64.wrap n=(n+9223372036854775808)%18446744073709551616-9223372036854775808:=by simp [IntKind.wrap,IntKind.bits,IntKind.signed];omega
theorem wr_u64 (n:Int):IntKind.u64.wrap n=n%18446744073709551616:=by simp [IntKind.wrap,IntKind.bits,IntKind.signed]
theorem wr_u16 (n:Int):IntKind.u16.wrap n=n%65536:=by simp [IntKind.wrap,IntKind.bits,IntKind.signed]
theorem wr_u8 (n:Int):IntKind.u8.wrap n=n%256:=by simp [IntKind.wrap,IntKind.bits,IntKind.signed]
def encL (l:List UInt8):Int:=l.foldl (fun a b=>a*256+b.toNat) 1
theorem encL_snoc (l:List UInt8) (b:UInt8):encL (l++[b])=encL l*256+b.toNat:=by simp [encL]
def segsPv (σ:Sig) (Q:SEx→Shape→Sig→Prop):Sv→Prop
 |.leaf x s _ l ex=>Q x s (asgS σ (l++ex))
 |.leafE x s _ l ex=>EqsL σ l l∧Q x s (asgS σ (l++ex))
 |.req o v=>o.Sat σ∧segsPv σ Q v
 |.dead=>False
 |.node i y n=>(σ.bval i=true→segsPv σ Q y)∧(σ.bval i=false→segsPv σ Q n)
 |.pick i k y n=>(σ.ival i=k→segsPv σ Q y)∧(¬σ.ival i=k→segsPv σ Q n)
def segsPw (σ:Sig) (Q:SEx→Shape→Sig→Prop):Sw→Prop
 |.run v=>segsPv σ Q v
 |.dead=>False
 |.node i y n=>(σ.bval i=true→segsPw σ Q y)∧(σ.bval i=false→segsPw σ Q n)
 |.pick i k y n=>(σ.ival i=k→segsPw σ Q y)∧(¬σ.ival i=k→segsPw σ Q n)
theorem segs_no {σ:Sig} {Q:SEx→Shape→Sig→Prop}: ∀{v:Sv} {F:List Fact},¬Holds σ F→segs σ Q v F
 |.leaf ..,_,h=>fun hF=>absurd hF h
 |.leafE ..,_,h=>fun hF=>absurd hF h
 |.req ..,_,h=>⟨fun hF=>absurd hF h,segs_no h⟩
 |.dead,_,h=>h
 |.node ..,_,h=>⟨segs_no fun hF=>h hF.2,segs_no fun hF=>h hF.2⟩
 |.pick ..,_,h=>⟨segs_no fun hF=>h hF.2,segs_no fun hF=>h hF.2⟩
theorem segsW_no {σ:Sig} {Q:SEx→Shape→Sig→Prop}: ∀{v:Sw} {F:List Fact},¬Holds σ F→segsW σ Q v F
 |.run ..,_,h=>segs_no (v:=_) h
 |.dead,_,h=>h
 |.node ..,_,h=>⟨segsW_no fun hF=>h hF.2,segsW_no fun hF=>h hF.2⟩
 |.pick ..,_,h=>⟨segsW_no fun hF=>h hF.2,segsW_no fun hF=>h hF.2⟩
theorem segsPv_segs {σ:Sig} {Q:SEx→Shape→Sig→Prop}: ∀{v:Sv} {F:List Fact},segsPv σ Q v→segs σ Q v F
 |.leaf ..,_,h=>fun _=>h
 |.leafE ..,_,h=>fun _=>h
 |.req ..,_,h=>⟨fun _=>h.1,segsPv_segs h.2⟩
 |.dead,_,h=>h.elim
 |.node i y n,F,h=>by
  constructor
  ·by_cases hb:σ.bval i=true
   ·exact segsPv_segs (h.1 hb)
   ·exact segs_no fun hF=>hb hF.1
  ·by_cases hb:σ.bval i=false
   ·exact segsPv_segs (h.2 hb)
   ·exact segs_no fun hF=>hb hF.1
 |.pick i k y n,F,h=>by
  constructor
  ·by_cases hb:σ.ival i=k
   ·exact segsPv_segs (h.1 hb)
   ·exact segs_no fun hF=>hb hF.1
  ·by_cases hb:σ.ival i=k
   ·exact segs_no fun hF=>hF.1 hb
   ·exact segsPv_segs (h.2 hb)
theorem segsPw_segs {σ:Sig} {Q:SEx→Shape→Sig→Prop}: ∀{v:Sw} {F:List Fact},segsPw σ Q v→segsW σ Q v F
 |.run ..,_,h=>segsPv_segs (v:=_) h
 |.dead,_,h=>h.elim
 |.node i y n,F,h=>by
  constructor
  ·by_cases hb:σ.bval i=true
   ·exact segsPw_segs (h.1 hb)
   ·exact segsW_no fun hF=>hb hF.1
  ·by_cases hb:σ.bval i=false
   ·exact segsPw_segs (h.2 hb)
   ·exact segsW_no fun hF=>hb hF.1
 |.pick i k y n,F,h=>by
  constructor
  ·by_cases hb:σ.ival i=k
   ·exact segsPw_segs (h.1 hb)
   ·exact segsW_no fun hF=>hb hF.1
  ·by_cases hb:σ.ival i=k
   ·exact segsW_no fun hF=>hF.1 hb
   ·exact segsPw_segs (h.2 hb)
theorem insOk_kt {X:Ing} {τ:Sig} (hG:Eqs τ X.m X.G) (hi:InsOk τ X.m X.ins) (hkt:okKt X=true) {l:Asg} {q:Nat} {insq:List (Option IntKind)} (h:insAsg (kdX X) l insq 0=true):InsOk (asgS τ l) q insq:=by
 intro i k _ hik
 have hik:insq[i]? =some (some k):=by
  cases hc:insq[i]? with
  |none=>rw [hc] at hik;cases hik
  |some o=>rw [hc] at hik;simp only [Option.getD_some] at hik;rw [hik]
 obtain ⟨a,h1,h2⟩:=insAsg_get h i k hik
 rw [Nat.zero_add] at h1
 obtain ⟨n,h3,h4⟩:=inK_spec (fun i k h=>kdX_spec hG hi hkt i k h) h2
 have:(asgS τ l).ival i=n:=by
  simp only [asgS,h1]
  cases a<;>simp only [inK,Bool.false_eq_true] at h2<;>simp only [valS,h3,iOf]
 rw [this];exact h4
end Go.Ev
namespace Go.Ev
open Go.RowKit
set_option linter.unusedVariables false
set_option linter.unusedSimpArgs false
theorem cellsGs_get: ∀{l:List Blk},cellsGs l=true→ ∀(i:Nat) (k:Blk),l[i]? =some k→k≠.gone→(∃c e,k=.cells c e)∨ ∃s n cl e,k=.lst s n cl e
 |[],_,i,k,hi,_=>by simp at hi
 |b::l,h,0,k,hi,hk=>by
  simp at hi;subst hi
  cases b<;>simp [cellsGs] at h hk⊢
 |b::l,h,i+1,k,hi,hk=>by
  refine cellsGs_get (l:=l) ?_ i k (by simpa using hi) hk
  cases b<;>simp [cellsGs] at h⊢ <;>exact h
theorem HRel.grown {ng:Cx} {g:Inj} {H:List Blk} {w W':World} {row:Option Nat} (hH:HRel ng g H w) (hn:ng.n=0) (hm: ∀i,g.mp i=none) (hc:cellsGs H=true) (hg:w.grownBy W' row) (hr: ∀r,row=some r→ ∃o:Obj,w.heap[r]? =some o∧o.isCells=false):HRel ng g H W':=by
 have same: ∀(b:Nat) (o:Obj),w.heap[b]? =some o→o.isCells=true→W'.heap[b]? =w.heap[b]?:=fun b o h1 h2=>grownBy_keeps_cells hg hr h1 h2
 have hsz:w.heap.size≤W'.heap.size:=hg.size
 refine ⟨fun i L hi=>⟨(hH.dom i L hi).1,by have:=(hH.dom i L hi).2;omega⟩,hH.inj,fun i k hi hk=> ?_,fun i hi=>by omega,hH.sig,⟨fun i X hi hX=> ?_,(fun i X hi=>by rw [hm] at hi;cases hi),fun i X h0 hi=>Nat.lt_of_lt_of_le (hH.frz.top i X h0 hi) hsz⟩⟩
 ·rcases hH.blk0 i k hi hk with h|⟨L,hL,hB⟩
  ·exact .inl h
  ·refine .inr ⟨L,hL,hB.of_same ?_⟩
   rcases cellsGs_get hc i k hi hk with ⟨c,e,rfl⟩|⟨s,n,cl,e,rfl⟩
   ·obtain ⟨C,fr,h1,_⟩:=hB
    exact same _ _ h1 rfl
   ·obtain ⟨S,N,C,fr,_,_,_,_,h1,_⟩:=hB
    exact same _ _ h1 rfl
 ·obtain ⟨f1,f2⟩:=hH.frz.row i X hi hX
  refine ⟨f1.of_same ?_,f2⟩
  obtain ⟨C,e,fr,h1,_⟩:=f1
  exact same _ _ h1 rfl
end Go.Ev
namespace Go.Ev
open Go.RowKit
set_option linter.unusedVariables false
set_option linter.unusedSimpArgs false
structure E3 where
 t:Int
 k:Int
 v:Int
deriving DecidableEq,Inhabited
def cl3:List (Option IntKind):=[some .i64,some .i64,some .u8]
def E3.enc (x:E3):Value:=.agg #[.int .i64 x.t,.int .i64 x.k,.int .u8 x.v]
def rowE (C:ByteArray) (j:Nat):E3:=⟨iOf (rowAtD cl3 C j 0),iOf (rowAtD cl3 C j 1),iOf (rowAtD cl3 C j 2)⟩
def uptoE (xs:Nat→E3) (c:Int) (k:Nat):List E3:=((List.range k).map xs).filter fun x=>decide (x.t≤c)
theorem uptoE_succ (xs:Nat→E3) (c:Int) (k:Nat):uptoE xs c (k+1)=if (xs k).t≤c then uptoE xs c k++[xs k] else uptoE xs c k:=by
 simp only [uptoE,List.range_succ,List.map_append,List.map_cons,List.map_nil,List.filter_append]
 split<;>rename_i h<;>simp [h]
def UpOk (P:Program) (gf:FuncId):Prop:=
 ∀(l Bs ds Bc dc b off len cap:Nat) (ao:Option Addr) (c:Int) (xs:Nat→E3) (J:List E3→World→Prop) (W:World),len≤9223372036854775807→(0<len→ao=some ⟨b,off,none⟩)→AbidesFrom W.heap.size J→
  (∀pre W',J pre W'→W.heap.size≤W'.heap.size∧W'.cell? ⟨Bc,dc,none⟩=some (.int .i64 c)∧
   ∀j,j<len→W'.cell? ⟨b,off+j*3,none⟩=some (.int .i64 (xs j).t)∧W'.cell? ⟨b,off+j*3+1,none⟩=some (.int .i64 (xs j).k)∧W'.cell? ⟨b,off+j*3+2,none⟩=some (.int .u8 (xs j).v))→
  (∀k W1,k<len→(xs k).t≤c→J (uptoE xs c k) W1→YieldAt (FR none) 0 P l #[(xs k).enc] W1 fun e W'=>e=.returned (.bool true)∧J (uptoE xs c k++[xs k]) W')→
  W.cell? ⟨Bs,ds,none⟩=some (.slice ao len cap)→J [] W→
  Calls P gf #[.func (.yield l) #[] #[],.pointer (some ⟨Bs,ds,none⟩),.pointer (some ⟨Bc,dc,none⟩)] W fun e W'=>(∃v,e=.returned v)∧J (uptoE xs c len) W'
end Go.Ev
namespace Go.Ev
open Go.RowKit
set_option linter.unusedVariables false
set_option linter.unusedSimpArgs false
structure AtG (tab:TabF) (s:Shape) (n:Nat) (W0:Fra) (a:Act) (w:World) (g:Inj):Prop where
 rel:HRel (cx0 tab) g s.heap w
 mp: ∀i,g.mp i=none
 tmp: ∀p,p∈s.t→ ∃u,a.tmps[p.1]? =some u∧VRel g p.2 u
 own: ∀i L,g i=some L→W0.own L.blk
 pin: ∀i x,W0.pin i=some x→i<s.heap.length∧g i=x
 below:BelowF W0 w
 size:a.tmps.size=n
def StageM (P:Program) (tab:TabF) (n:Nat) (W0:Fra) (Z:Exit→Act→World→Prop) (c:List Code) (S:Shape) (q:Nat) (ins:List (Option IntKind)) (J:Sig→Prop):Prop:=
 ∀a w g D,AtG tab S n W0 a w g→a.defers=[{target:=.collected D,args:= #[]}]→W0.w.heap.size≤D→w.heap[D]? =some (.deferred (some []))→(∀i L,g i=some L→L.blk≠D)→InsOk g.sig q ins→J g.sig→g.sig.tab=tab→chainK P c (Z .normal) Z a w
def rngOf:List Code→Option (Nat×Operand×Array Tmp×Code×Code)
 |[]=>none
 |.block i (.rangeFunc f ps a b)::_=>some (i,f,ps,a,b)
 |_::l=>rngOf l
def rngPs (l:List Code):Array Tmp:=match rngOf l with
 |some (_,_,ps,_,_)=>ps
 |none=> #[]
def rngAsg (l:List Code):Code:=match rngOf l with
 |some (_,_,_,a,_)=>a
 |none=> .skip
def rngBody (l:List Code):Code:=match rngOf l with
 |some (_,_,_,_,b)=>b
 |none=> .skip
def roundTree (t:Tm) (nk:Nat):Tree (Out×Hp)→Tree (Ex×Tm×Hp)
 |.leaf x=>match x.1 with
  |.val (.bool true)=>match x.2.heap[nk]? with
   |some .dfr=>match x.2.heap[nk+1]? with
    |some (.loop l2)=>match l2.st,l2.pend with
     |.ready,none=> .leaf (.normal,t,x.2)
     |_,_=> .dead
    |_=> .dead
   |_=> .dead
  |_=> .dead
 |.node i y n=> .node i (roundTree t nk y) (roundTree t nk n)
 |.pick i c y n=> .pick i c (roundTree t nk y) (roundTree t nk n)
 |.or y n=> .or (roundTree t nk y) (roundTree t nk n)
 |.req o v=> .req o (roundTree t nk v)
 |.dead=> .dead
theorem roundTree_sat {σ:Sig} {t:Tm} {nk:Nat} {Q:Ex×Tm×Hp→Prop}: ∀{T:Tree (Out×Hp)},Sat σ Q (roundTree t nk T)→
  Sat σ (fun x=>x.1=.val (.bool true)∧x.2.heap[nk]? =some .dfr∧(∃l2,x.2.heap[nk+1]? =some (.loop l2)∧l2.st=.ready∧l2.pend=none)∧Q (.normal,t,x.2)) T
 |.leaf x,h=>by
  simp only [roundTree] at h
  split at h
  ·rename_i h1
   split at h
   ·rename_i h2
    split at h
    ·rename_i l2 h3
     split at h
     ·rename_i h4 h5
      exact ⟨h1,h2,⟨l2,h3,h4,h5⟩,h⟩
     ·exact h.elim
    ·exact h.elim
   ·exact h.elim
  ·exact h.elim
 |.node i _ _,h=>⟨fun e=>roundTree_sat (h.1 e),fun e=>roundTree_sat (h.2 e)⟩
 |.pick i c _ _,h=>⟨fun e=>roundTree_sat (h.1 e),fun e=>roundTree_sat (h.2 e)⟩
 |.or _ _,h=>⟨roundTree_sat h.1,roundTree_sat h.2⟩
 |.req _ _,h=>⟨h.1,roundTree_sat h.2⟩
 |.dead,h=>h
theorem HRel.add {ng:Cx} {g:Inj} {H:List Blk} {w:World} (h:HRel ng g H w) (hn:ng.n=0) (hmp: ∀i,g.mp i=none) {k:Blk} {L:Loc} {o:Obj} (ho:w.heap[L.blk]? =some o) (hoc:o.isCells=false)
  (hfree: ∀j M,g j=some M→Live H j→M.blk≠L.blk) (hB:BRel (upd g H.length L) w k L):HRel ng (upd g H.length L) (H++[k]) w∧Sub g (upd g H.length L):=by
 have hid:=(new_none h).1
 have hsub:=upd_sub L hid
 have hlt:L.blk<w.heap.size:=(Array.getElem?_eq_some_iff.1 ho).1
 have hold: ∀j,j≠H.length→(H++[k])[j]? =H[j]?:=app_other
 have hliv: ∀j,j≠H.length→(Live (H++[k]) j↔Live H j):=fun j hj=>by simp only [Live,hold j hj]
 have hat:(upd g H.length L) H.length=some L:=upd_same _ _ _
 have hoth: ∀j,j≠H.length→(upd g H.length L) j=g j:=fun j hj=>upd_other _ _ hj
 refine ⟨⟨fun i M hi=> ?_,fun i j M N hi hj hb li lj=> ?_,fun i k' hi hk'=> ?_,fun i hi=>by omega,?_,⟨fun i X hi hX=> ?_,fun i X hi=> ?_,fun i X h0 hi=>h.frz.top i X h0 (by rw [←hsub.sig];exact hi)⟩⟩,hsub⟩
 ·by_cases e:i=H.length
  ·subst e;rw [hat] at hi;cases hi;exact ⟨by simp,hlt⟩
  ·rw [hoth i e] at hi
   have:=h.dom i M hi
   exact ⟨by simp;omega,this.2⟩
 ·by_cases e:i=H.length
  ·subst e
   rw [hat] at hi;cases hi
   by_cases e':j=H.length
   ·exact e'.symm
   ·rw [hoth j e'] at hj
    exact absurd hb.symm (hfree j N hj ((hliv j e').1 lj))
  ·rw [hoth i e] at hi
   by_cases e':j=H.length
   ·subst e'
    rw [hat] at hj;cases hj
    exact absurd hb (hfree i M hi ((hliv i e).1 li))
   ·rw [hoth j e'] at hj
    exact h.inj i j M N hi hj hb ((hliv i e).1 li) ((hliv j e').1 lj)
 ·by_cases e:i=H.length
  ·subst e
   have:(H++[k])[H.length]? =some k:=by simp
   rw [this] at hi;cases hi
   exact .inr ⟨L,hat,hB⟩
  ·rw [hold i e] at hi
   rcases h.blk0 i k' hi hk' with h1|⟨M,h1,h2⟩
   ·exact .inl (h1.mono hsub.sig)
   ·exact .inr ⟨M,by rw [hoth i e];exact h1,h2.mono hsub⟩
 ·rw [hsub.sig];exact h.sig
 ·have hi:g.sig.ext i=some X:=by rw [←hsub.sig];exact hi
  obtain ⟨f1,f2⟩:=h.frz.row i X hi hX
  refine ⟨f1,fun j M hj lj=> ?_⟩
  by_cases e:j=H.length
  ·subst e
   rw [hat] at hj;cases hj
   intro e2
   obtain ⟨C,e3,fr,h3,_⟩:=f1
   rw [←e2,ho] at h3
   cases h3;cases hoc
  ·rw [hoth j e] at hj
   exact f2 j M hj ((hliv j e).1 lj)
 ·have hi:g.mp i=some X:=by
   have:(upd g H.length L).mp=g.mp:=rfl
   rw [this] at hi;exact hi
  rw [hmp] at hi;cases hi
theorem cells_of_live {g:Inj} {H:List Blk} {w:World} {ng:Cx} (h:HRel ng g H w) (hc:cellsBs H=true) (hne: ∀(i:Nat) (s n:AVal) (cl:List (Option IntKind)) (e:TypeId),H[i]? =some (.lst s n cl e)→den g.sig n≠.int .i64 0) {j:Nat} {M:Loc} (hj:g j=some M) (lj:Live H j):
  ∃o,w.heap[M.blk]? =some o∧o.isCells=true:=by
 obtain ⟨k,hk,hkg⟩:=lj
 rcases h.blk0 j k hk hkg with ⟨s,n,cl,e,rfl,_,d2⟩|⟨L,hL,hB⟩
 ·exact absurd d2 (hne j s n cl e hk)
 ·rw [hj] at hL;cases hL
  rcases cellsBs_get hc j k hk with ⟨c,e,rfl⟩|⟨s,n,cl,e,rfl⟩
  ·obtain ⟨C,fr,h1,_⟩:=hB;exact ⟨_,h1,rfl⟩
  ·obtain ⟨S,N,C,fr,_,_,_,_,h1,_⟩:=hB;exact ⟨_,h1,rfl⟩
theorem cellsBs_Gs: ∀{l:List Blk},cellsBs l=true→cellsGs l=true
 |[],_=>rfl
 |b::l,h=>by cases b<;>simp [cellsBs] at h<;>simp [cellsGs,cellsBs_Gs h]
def ext3 (σ:Sig) (q:Nat) (x:E3):Sig:={σ with ival:=fun i=>if i=q then x.t else if i=q+1 then x.k else if i=q+2 then x.v else σ.ival i}
theorem ext3_agree (σ:Sig) (q:Nat) (x:E3):Agree q σ (ext3 σ q x):=by
 refine ⟨fun i hi=>⟨?_,rfl,rfl⟩,rfl,rfl⟩
 simp only [ext3]
 rw [if_neg (by omega),if_neg (by omega),if_neg (by omega)]
theorem BelowF.grown {f:Fra} {w w':World} {row:Option Nat} (h:BelowF f w) (hg:w.grownBy w' row) (hr: ∀r,row=some r→f.w.heap.size≤r):BelowF f w':=
 ⟨hg.os.trans h.os,hg.tape.trans h.tape,hg.output.trans h.output,Nat.le_trans h.size hg.size,fun b hb ho=>by
  rw [hg.block b (by have:=h.size;omega) (fun e=>by have:=hr b e.symm;omega)];exact h.frame b hb ho⟩
structure RdJ (tab:TabF) (n:Nat) (W0:Fra) (a:Act) (tt:List (Nat×AVal)) (tm:Tm) (ps:Array Tmp) (asg body:Code) (D l:Nat) (pn:Nat→Option (Option Loc)) (H:List Blk) (J:Sig→Prop) (W:World) (g:Inj):Prop where
 rel:HRel (cx0 tab) g H W
 mp: ∀i,g.mp i=none
 tmp: ∀p,p∈tt→ ∃u,a.tmps[p.1]? =some u∧VRel g p.2 u
 own: ∀i L,g i=some L→W0.own L.blk
 pin: ∀i x,pn i=some x→i<H.length∧g i=x
 below:BelowF W0 W
 dfr:W.heap[D]? =some (.deferred (some []))
 loop: ∃r:Loop,W.heap[l]? =some (.loop r)∧r.state=.ready∧r.pending=none∧TmRel g tm r.tmps∧r.params=ps∧r.assign=asg∧r.body=body∧r.defers=D
 holds:J g.sig
theorem RdJ.grown {tab:TabF} {n:Nat} {W0:Fra} {a:Act} {tt:List (Nat×AVal)} {tm:Tm} {ps:Array Tmp} {asg body:Code} {D l:Nat} {pn:Nat→Option (Option Loc)} {H:List Blk} {J:Sig→Prop} {W W':World} {g:Inj} {row:Option Nat}
  (h:RdJ tab n W0 a tt tm ps asg body D l pn H J W g) (hc:cellsBs H=true) (hg:W.grownBy W' row) (hr: ∀r,row=some r→W0.w.heap.size≤r∧r≠D∧r≠l∧ ∃o:Obj,W.heap[r]? =some o∧o.isCells=false):RdJ tab n W0 a tt tm ps asg body D l pn H J W' g:=by
 have same: ∀b o,W.heap[b]? =some o→(∀r,row=some r→r≠b)→W'.heap[b]? =some o:=fun b o h1 h2=>by
  rw [hg.block b (Array.getElem?_eq_some_iff.1 h1).1 (fun e=>h2 b e.symm rfl)];exact h1
 refine ⟨h.rel.grown rfl h.mp (cellsBs_Gs hc) hg (fun r e=>(hr r e).2.2.2),h.mp,h.tmp,h.own,h.pin,h.below.grown hg (fun r e=>(hr r e).1),same _ _ h.dfr (fun r e=>(hr r e).2.1),?_,h.holds⟩
 obtain ⟨r,h1,h2⟩:=h.loop
 exact ⟨r,same _ _ h1 (fun r e=>(hr r e).2.2.1),h2⟩
end Go.Ev
namespace Go.Ev
open Go.RowKit
set_option linter.unusedVariables false
set_option linter.unusedSimpArgs false
theorem rowE_cell {C:ByteArray} {j:Nat} {g:Inj} {v:Value}:(VRel g (rowAtD cl3 C j 0) v→v=.int .i64 (rowE C j).t)∧(VRel g (rowAtD cl3 C j 1) v→v=.int .i64 (rowE C j).k)∧(VRel g (rowAtD cl3 C j 2) v→v=.int .u8 (rowE C j).v):=by
 have key: ∀(i:Nat) (k:IntKind),cl3[i]? =some (some k)→ ∃n,rowAtD cl3 C j i=.int k n:=by
  intro i k hk
  rcases cellD_like cl3 i (C.data.toList.drop (j*rsz cl3)) with ⟨k',n,h1,h2⟩|⟨h1,_⟩
  ·rw [hk] at h1;cases h1;exact ⟨n,h2⟩
  ·exact absurd hk (h1 k)
 refine ⟨fun h=> ?_,fun h=> ?_,fun h=> ?_⟩
 ·obtain ⟨n,e⟩:=key 0 .i64 rfl
  simp only [rowE,e,iOf] at h⊢;cases h;rfl
 ·obtain ⟨n,e⟩:=key 1 .i64 rfl
  simp only [rowE,e,iOf] at h⊢;cases h;rfl
 ·obtain ⟨n,e⟩:=key 2 .u8 rfl
  simp only [rowE,e,iOf] at h⊢;cases h;rfl
theorem rowE_wrap (C:ByteArray) (j:Nat):IntKind.i64.wrap (rowE C j).t=(rowE C j).t∧IntKind.i64.wrap (rowE C j).k=(rowE C j).k∧IntKind.u8.wrap (rowE C j).v=(rowE C j).v:=by
 have key: ∀(i:Nat) (k:IntKind),cl3[i]? =some (some k)→k.wrap (iOf (rowAtD cl3 C j i))=iOf (rowAtD cl3 C j i):=by
  intro i k hk
  rcases cellD_like cl3 i (C.data.toList.drop (j*rsz cl3)) with ⟨k',n,h1,h2⟩|⟨h1,_⟩
  ·rw [hk] at h1;cases h1
   have h3:=cellD_wrap _ _ _ h2
   have:rowAtD cl3 C j i=.int k n:=h2
   rw [this];exact h3
  ·exact absurd hk (h1 k)
 exact ⟨key 0 .i64 rfl,key 1 .i64 rfl,key 2 .u8 rfl⟩
theorem RdJ.cells {tab:TabF} {n:Nat} {W0:Fra} {a:Act} {tt:List (Nat×AVal)} {tm:Tm} {ps:Array Tmp} {asg body:Code} {D l:Nat} {pn:Nat→Option (Option Loc)} {H:List Blk} {J:Sig→Prop} {W:World} {g:Inj}
  (h:RdJ tab n W0 a tt tm ps asg body D l pn H J W g) {i2:Nat} {cA:AVal} {T2:TypeId} {c:Int} {L2:Loc} (hb2:H[i2]? =some (.cells [cA] T2)) (hc:den g.sig cA=.int .i64 c) (hp2:pn i2=some (some L2)):W.cell? ⟨L2.blk,L2.dl+0,none⟩=some (.int .i64 c):=by
 have hL:=(h.pin i2 _ hp2).2
 rcases h.rel.blk0 i2 _ hb2 (by simp) with hz|⟨L,hL',C,fr,h1,h2,h3,h4,h5⟩
 ·obtain ⟨s,n,cl,e,hh,_⟩:=hz;cases hh
 ·rw [hL] at hL';cases hL'
  obtain ⟨v,v1,v2,v3⟩:=h5 0 cA rfl
  rw [cell_of h1,v1]
  have:=den_rel.2 v2
  rw [hc] at this
  cases this;rfl
theorem RdJ.lst {tab:TabF} {n:Nat} {W0:Fra} {a:Act} {tt:List (Nat×AVal)} {tm:Tm} {ps:Array Tmp} {asg body:Code} {D l:Nat} {pn:Nat→Option (Option Loc)} {H:List Blk} {J:Sig→Prop} {W:World} {g:Inj}
  (h:RdJ tab n W0 a tt tm ps asg body D l pn H J W g) {il:Nat} {sA NA:AVal} {e:TypeId} {C:ByteArray} {N o len:Nat} {L:Loc} (hb:H[il]? =some (.lst sA NA cl3 e)) (hs:den g.sig sA=.str C) (hN:den g.sig NA=.int .i64 (N:Int)) (hp:pn il=some (some L)) (hoN:o+len≤N) (hN0:0<len):
  ∀j,j<len→W.cell? ⟨L.blk,L.dl+o*3+j*3,none⟩=some (.int .i64 (rowE C (o+j)).t)∧W.cell? ⟨L.blk,L.dl+o*3+j*3+1,none⟩=some (.int .i64 (rowE C (o+j)).k)∧W.cell? ⟨L.blk,L.dl+o*3+j*3+2,none⟩=some (.int .u8 (rowE C (o+j)).v):=by
 intro j hj
 have hL:=(h.pin il _ hp).2
 rcases h.rel.blk0 il _ hb (by simp) with hz|⟨L',hL',S,N',A,fr,e9,h1,h2,h3,h4,h5,h6,h7,h8⟩
 ·obtain ⟨s,n,cl,e,hh,_,d2⟩:=hz
  cases hh
  rw [hN] at d2
  simp only [AVal.int.injEq,true_and] at d2
  omega
 ·rw [hL] at hL';cases hL'
  rw [hs] at h1;cases h1
  rw [hN] at h2
  simp only [AVal.int.injEq,true_and] at h2
  have h2:N=N':=by omega
  subst h2
  have at_: ∀i,i<3→ ∃v,W.cell? ⟨L.blk,L.dl+o*3+j*3+i,none⟩=some v∧VRel g (rowAtD cl3 C (o+j) i) v:=by
   intro i hi
   obtain ⟨v,v1,v2,v3⟩:=h8 (o+j) i (by omega) hi
   refine ⟨v,?_,v2⟩
   rw [cell_of h4]
   have e1:L.dl+o*3+j*3+i=L.dl+(o+j)*cl3.length+i:=by simp [cl3];omega
   rw [e1];exact v1
  obtain ⟨v0,a0,b0⟩:=at_ 0 (by omega)
  obtain ⟨v1,a1,b1⟩:=at_ 1 (by omega)
  obtain ⟨v2,a2,b2⟩:=at_ 2 (by omega)
  rw [rowE_cell.1 b0] at a0
  rw [rowE_cell.2.1 b1] at a1
  rw [rowE_cell.2.2 b2] at a2
  exact ⟨a0,a1,a2⟩
structure RdOk (P:Program) (tab:TabF) (X:Ing) (q:Nat) (kds:List (Option IntKind)) (mb:Bool) (fuel d:Nat) (nb:Nat) (tm:Tm) (ps:Array Tmp) (asg body:Code) (tt:List (Nat×AVal)) (S:Shape) (Wt:Sw):Prop where
 mixed:P.follows .mixedOrders=true
 lt:okLT X.m X.G X.T=true
 ok:okG X.G X.m=true
 hook: ∀F,Hooks P (cxOf X F)
 n0:X.n=0
 tab:X.tab=tab
 m:X.m=q+3
 ins:X.ins=kds++[some .i64,some .i64,some .u8]
 inl:List.length (α:=Option IntKind) kds=q
 rows:X.rows=[]
 cuts:X.cuts=[]
 inv: ∀σ,X.inv σ
 kt:okKt X=true
 t:S.t=tt
 cells:cellsBs S.heap=true
 id:idOk S q=true
 tf: ∀i v,tm.get i=some v→(i,v)∈tt
 df:tm.df=[]
 uniq: ∀i u v,(i,u)∈tt→(i,v)∈tt→u=v
 reck:okSw (fun F=>roundTree tm S.heap.length ((evD P (cxOf X) mb fuel d).2 F (S.heap.length+1) [.agg [.symi .i64 q,.symi .i64 (q+1),.symi .u8 (q+2)]] ⟨S.heap++[.dfr,.loop ⟨.ready,none,tm,ps,asg,body,S.heap.length⟩],[]⟩)) Wt []=true
 pins: ∀i,i<nb→pinW i Wt=true
theorem ins3 {ins:List (Option IntKind)} {q:Nat} (hl:ins.length=q) {σ:Sig} (hi:InsOk σ q ins) {C:ByteArray} {j:Nat}:InsOk (ext3 σ q (rowE C j)) (q+3) (ins++[some .i64,some .i64,some .u8]):=by
 obtain ⟨w1,w2,w3⟩:=rowE_wrap C j
 intro i k hlt hk
 by_cases h0:i<q
 ·have:((ins++[some .i64,some .i64,some .u8])[i]?).getD none=(ins[i]?).getD none:=by rw [List.getElem?_append_left (by omega)]
  rw [this] at hk
  have:=hi i k h0 hk
  simp only [ext3]
  rw [if_neg (by omega),if_neg (by omega),if_neg (by omega)];exact this
 ·have h3:i=q∨i=q+1∨i=q+2:=by omega
  rw [List.getElem?_append_right (by omega),hl] at hk
  rcases h3 with rfl|rfl|rfl
  ·simp at hk;subst hk;simp [ext3,w1]
  ·simp at hk;subst hk;simp [ext3,w2]
  ·simp at hk;subst hk;simp [ext3,w3]
theorem RdJ.round {P:Program} {tab:TabF} {X:Ing} {q:Nat} {ins:List (Option IntKind)} {mb:Bool} {fuel d nb n:Nat} {W0:Fra} {a:Act} {tt:List (Nat×AVal)} {tm:Tm} {ps:Array Tmp} {asg body:Code} {D l:Nat} {pn:Nat→Option (Option Loc)} {S:Shape} {Wt:Sw} {J:Sig→Prop} {W:World} {g:Inj}
  (h:RdJ tab n W0 a tt tm ps asg body D l pn S.heap J W g) (s:RdOk P tab X q ins mb fuel d nb tm ps asg body tt S Wt) (hDl:D≠l) (hpn: ∀i x,pn i=some x→i<nb)
  (hne: ∀τ,Agree q g.sig τ→ ∀(i:Nat) (s n:AVal) (cl:List (Option IntKind)) (e:TypeId),S.heap[i]? =some (.lst s n cl e)→den τ n≠.int .i64 0) (hi:InsOk g.sig q ins) (ht:g.sig.tab=tab) {C:ByteArray} {j:Nat}
  {ι:Type} {Sh:ι→Shape} {J2:ι→Sig→Prop}
  (ob:segsW (solve X.G X.m (ext3 g.sig q (rowE C j))) (fun x s2 σ2=>x=.normal∧ ∃k,s2=Sh k∧InsOk σ2 q ins∧J2 k σ2∧σ2.tab=tab) Wt [])
  (hSt: ∀k,(Sh k).t=tt) (hD0:W0.w.heap.size≤D) (hl0:W0.w.heap.size≤l):
  YieldAt (FR none) 0 P l #[(rowE C j).enc] W fun e W'=>e=.returned (.bool true)∧W.heap.size≤W'.heap.size∧ ∃k g',RdJ tab n W0 a tt tm ps asg body D l pn (Sh k).heap (J2 k) W' g'∧InsOk g'.sig q ins∧g'.sig.tab=tab:=by
 have hXt:X.tab=tab:=s.tab
 have hXm:X.m=q+3:=s.m
 let σ0:=ext3 g.sig q (rowE C j)
 have ag0:Agree q g.sig σ0:=ext3_agree _ _ _
 have ag1:=agree_solve X.G X.m σ0
 have ag:Agree q g.sig (solve X.G X.m σ0):=⟨fun i hi=>by
   obtain ⟨a1,a2,a3⟩:=ag0.val i hi
   obtain ⟨b1,b2,b3⟩:=ag1.val i (by omega)
   exact ⟨a1.trans b1,a2.trans b2,a3.trans b3⟩,ag0.tab.trans ag1.tab,ag0.ext.trans ag1.ext⟩
 have htab:(solve X.G X.m σ0).tab=X.tab:=by rw [←ag.tab,hXt];exact ht
 have hins:InsOk (solve X.G X.m σ0) X.m X.ins:=by
  intro i k hlt hik
  rw [←(ag1.val i hlt).1]
  rw [s.ins] at hik;rw [hXm] at hlt
  exact ins3 s.inl hi i k hlt hik
 have hb:BaseOk X (solve X.G X.m σ0):=⟨eqs_solve s.ok,htab,hins,by rw [s.rows];exact rows_nil,by rw [s.cuts];exact cuts_nil,s.inv _,s.kt⟩
 obtain ⟨F,hF,hsat⟩:=okSw_sat s.reck ⟨leavesW_pin (pin:=fun i=>i<nb) s.pins,ob⟩ trivial
 have hgood:(cxOf X F).Good (solve X.G X.m σ0):=cx_good s.lt hb hF
 have hid':=s.id
 unfold idOk at hid'
 split at hid'
 ·rename_i lx ly hlx hly
  simp only [Bool.and_eq_true] at hid'
  obtain ⟨⟨i1,i2⟩,i3⟩:=hid'
  have hn0:(cxOf X F).n=0:=s.n0
  have hH1:HRel (cxOf X F) (moved (idF S.heap.length 0) g (solve X.G X.m σ0)) S.heap W:=rematch h.rel s.n0 hgood (idF_length _ _) i3 hly (idAsg_fits ag i2) ag.ext.symm
  generalize hg1:moved (idF S.heap.length 0) g (solve X.G X.m σ0)=g1 at hH1
  have g1sig:g1.sig=solve X.G X.m σ0:=by rw [←hg1];rfl
  have g1mp: ∀i,g1.mp i=none:=by intro i;rw [←hg1];rfl
  have g1loc: ∀i,i<S.heap.length→g1 i=g i:=by
   intro i hi
   have h0:(idF S.heap.length 0)[i]? =some (i,0):=by simpa using idF_at (i:=0) hi
   rw [←hg1]
   cases hgi:g i with
   |none=>simp only [moved,h0,hgi,Option.map_none]
   |some L=>simp only [moved,h0,hgi,Option.map_some,shift,Nat.add_zero,Nat.sub_zero]
  have g1from: ∀i L,g1 i=some L→g i=some L:=by
   intro i L hi
   have:=(hH1.dom i L hi).1
   rw [g1loc i this] at hi;exact hi
  have hv1: ∀p,p∈tt→ ∀u,VRel g p.2 u→VRel g1 p.2 u:=by
   intro p hp u hu
   rw [←s.t] at hp
   obtain ⟨mm,q1,q2⟩:=matchL_mem _ _ lx hlx rfl p.2 (List.mem_map.2 ⟨_,hp,rfl⟩)
   rw [←hg1]
   exact matchV_sound (moved_moves _ g _ ag.ext.symm) p.2 p.2 mm u q1 (fun p hp=>idAsg_fits ag i1 p (q2 p hp)) hu
  have hne1: ∀(i:Nat) (s' n':AVal) (cl:List (Option IntKind)) (e:TypeId),S.heap[i]? =some (.lst s' n' cl e)→den g1.sig n'≠.int .i64 0:=by
   rw [g1sig];exact hne _ ag
  have hcl: ∀j M,g1 j=some M→Live S.heap j→ ∃o,W.heap[M.blk]? =some o∧o.isCells=true:=fun j M hj lj=>cells_of_live hH1 s.cells hne1 hj lj
  obtain ⟨r,r1,r2,r3,r4,r5,r6,r7,r8⟩:=h.loop
  obtain ⟨hH2,sub2⟩:=hH1.add hn0 g1mp (k:=.dfr) (L:=⟨D,0,0⟩) h.dfr rfl (fun j M hj lj he=>by
   obtain ⟨o,h1,h2⟩:=hcl j M hj lj
   have he:M.blk=D:=he
   rw [he,h.dfr] at h1;cases h1;cases h2) h.dfr
  generalize hg2:upd g1 S.heap.length ⟨D,0,0⟩=g2 at hH2 sub2
  have g2D:g2 S.heap.length=some ⟨D,0,0⟩:=by rw [←hg2];exact upd_same _ _ _
  have hlen2:(S.heap++[Blk.dfr]).length=S.heap.length+1:=by simp
  obtain ⟨hH3,sub3⟩:=hH2.add hn0 (fun i=>by rw [←hg2];exact g1mp i) (k:=.loop ⟨.ready,none,tm,ps,asg,body,S.heap.length⟩) (L:=⟨l,0,0⟩) r1 rfl (fun j M hj lj he=>by
   have he:M.blk=l:=he
   by_cases e:j=S.heap.length
   ·subst e
    rw [g2D] at hj;cases hj
    exact hDl he
   ·have hj1:g1 j=some M:=by rw [←hg2] at hj;rwa [show (upd g1 S.heap.length ⟨D,0,0⟩) j=g1 j from upd_other _ _ e] at hj
    have lj1:Live S.heap j:=by
     obtain ⟨k,hk,hkg⟩:=lj
     exact ⟨k,by rw [←app_other (k:=.dfr) j e];exact hk,hkg⟩
    obtain ⟨o,h1,h2⟩:=hcl j M hj1 lj1
    rw [he,r1] at h1;cases h1;cases h2) (by
   have hs3:Sub g2 (upd g2 (S.heap++[Blk.dfr]).length ⟨l,0,0⟩):=upd_sub _ (new_none hH2).1
   refine ⟨r,r1,r2,r3,?_,r5,r6,r7,⟨D,0,0⟩,hs3 _ _ g2D,r8⟩
   refine TmRel.mono hs3 (TmRel.mono sub2 ⟨r4.1,fun i v hv=> ?_⟩)
   obtain ⟨u,u1,u2⟩:=r4.2 i v hv
   exact ⟨u,u1,hv1 (i,v) (s.tf i v hv) u u2⟩)
  rw [hlen2] at hH3 sub3
  generalize hg3:upd g2 (S.heap.length+1) ⟨l,0,0⟩=g3 at hH3 sub3
  have g3L:g3 (S.heap.length+1)=some ⟨l,0,0⟩:=by rw [←hg3];exact upd_same _ _ _
  have g3D:g3 S.heap.length=some ⟨D,0,0⟩:=sub3 _ _ g2D
  have g3sig:g3.sig=solve X.G X.m σ0:=by rw [sub3.sig,sub2.sig,g1sig]
  have happ:S.heap++[Blk.dfr]++[Blk.loop ⟨.ready,none,tm,ps,asg,body,S.heap.length⟩]=S.heap++[.dfr,.loop ⟨.ready,none,tm,ps,asg,body,S.heap.length⟩]:=by simp
  rw [happ] at hH3
  have g3from: ∀i L,g3 i=some L→g i=some L∨L=⟨D,0,0⟩∨L=⟨l,0,0⟩:=by
   intro i L hi
   by_cases e1:i=S.heap.length+1
   ·subst e1;rw [g3L] at hi;cases hi;exact .inr (.inr rfl)
   ·have hi2:g2 i=some L:=by rw [←hg3] at hi;rwa [show (upd g2 (S.heap.length+1) ⟨l,0,0⟩) i=g2 i from upd_other _ _ e1] at hi
    by_cases e2:i=S.heap.length
    ·subst e2;rw [g2D] at hi2;cases hi2;exact .inr (.inl rfl)
    ·have hi1:g1 i=some L:=by rw [←hg2] at hi2;rwa [show (upd g1 S.heap.length ⟨D,0,0⟩) i=g1 i from upd_other _ _ e2] at hi2
     exact .inl (g1from i L hi1)
  have hsat2:=roundTree_sat hsat
  have vq: ∀i,i<q+3→(solve X.G X.m σ0).ival i=σ0.ival i:=fun i hi=>((ag1.val i (by omega)).1).symm
  have harg:LRel g3 [.agg [.symi .i64 q,.symi .i64 (q+1),.symi .u8 (q+2)]] #[(rowE C j).enc].toList:=by
   refine .cons _ _ _ _ (.agg _ _ (.cons _ _ _ _ (rel_symi ?_) (.cons _ _ _ _ (rel_symi ?_) (.cons _ _ _ _ (rel_symi ?_) .nil)))) .nil
   ·rw [g3sig,vq q (by omega)];simp [σ0,ext3]
   ·rw [g3sig,vq (q+1) (by omega)];simp [σ0,ext3]
   ·rw [g3sig,vq (q+2) (by omega)];simp [σ0,ext3]
  have E:=evD_env (mb:=mb) (fuel:=fuel) s.mixed (cx_ok s.lt) s.hook d
  obtain ⟨fn,tmps,asg',body',hy,hR⟩:=E.round F (S.heap.length+1) [.agg [.symi .i64 q,.symi .i64 (q+1),.symi .u8 (q+2)]] ⟨S.heap++[.dfr,.loop ⟨.ready,none,tm,ps,asg,body,S.heap.length⟩],[]⟩ _ g3 W #[(rowE C j).enc] ⟨l,0,0⟩ none hH3 g3L harg (by rw [g3sig];exact hsat2)
  refine ⟨fn,tmps,asg',body',hy,hR.mono ?_⟩
  rintro e W' ⟨⟨o,hp'⟩,⟨he1,he2,⟨l2,he3,he4,he5⟩,he6⟩,hT,g',ho,hH',hE⟩
  simp only at he1 he2 he3 he6 ho hH' hE
  subst he1
  obtain ⟨u,rfl,hu⟩:=ho
  cases hu
  refine ⟨rfl,hE.size,?_⟩
  obtain ⟨x,s2,f,lf,ex,hx,hdf,hmt,hft,⟨rfl,k,rfl,gi,gj,gt⟩,hRp⟩:=he6
  obtain ⟨y1,y2,m1,m2,rfl,m4,m5⟩:=matchS_spec hmt
  have hsig:g'.sig=solve X.G X.m σ0:=hE.sub.sig.trans g3sig
  have hfit:Fits g'.sig (asgS (solve X.G X.m σ0) (y1++y2++ex)) (y1++y2):=by rw [hsig];exact hft
  have hl2:l2=⟨.ready,none,tm,ps,asg,body,S.heap.length⟩:=by
   obtain ⟨l0,hl0,t1,t2,t3,t4,t5⟩:=hT.loops (S.heap.length+1) l2 (by simp) he3
   have:(S.heap++[Blk.dfr,.loop ⟨.ready,none,tm,ps,asg,body,S.heap.length⟩])[S.heap.length+1]? =some (.loop ⟨.ready,none,tm,ps,asg,body,S.heap.length⟩):=by
    rw [List.getElem?_append_right (by omega)];simp
   rw [this] at hl0
   cases hl0
   obtain ⟨z1,z2,z3,z4,z5,z6,z7⟩:=l2
   simp only at he4 he5 t1 t2 t3 t4 t5
   subst he4;subst he5;subst t1;subst t2;subst t3;subst t4;subst t5
   rfl
  subst hl2
  have g'L:g' (S.heap.length+1)=some ⟨l,0,0⟩:=hE.sub _ _ g3L
  have g'D:g' S.heap.length=some ⟨D,0,0⟩:=hE.sub _ _ g3D
  obtain ⟨rr,q1,q2,q3,q4,q5,q6,q7,D',q8,q9⟩:=loop_at_block hH' he3 g'L
  have hD':W'.heap[D]? =some (.deferred (some [])):=by
   obtain ⟨L,hL,hB⟩:=hH'.blk _ _ he2 (by simp)
   rw [g'D] at hL;cases hL
   exact hB
  have hB': ∀i L,g' i=some L→W0.own L.blk:=by
   intro i L hi
   have hsz:W0.w.heap.size≤W.heap.size:=h.below.size
   have old: ∀i L,g3 i=some L→W0.own L.blk:=by
    intro i L hi
    rcases g3from i L hi with h1|rfl|rfl
    ·exact h.own i L h1
    ·exact W0.new _ hD0
    ·exact W0.new _ hl0
   cases hg:g3 i with
   |some M=>
    have:=hE.sub i M hg
    rw [this] at hi;cases hi
    exact old i _ hg
   |none=>
    obtain ⟨_,hb⟩:=hE.new i L hi hg
    rcases hb with hb|⟨j',M,hj,hM,_⟩
    ·exact W0.new _ (by omega)
    ·rw [←hM];exact old j' M hj
  have hmv:=moved_moves f g' (asgS (solve X.G X.m σ0) (y1++y2++ex)) (by rw [hsig];rfl)
  have hvt: ∀p,p∈tt→ ∀u,VRel g p.2 u→VRel (moved f g' (asgS (solve X.G X.m σ0) (y1++y2++ex))) p.2 u:=by
   intro p hp u hu
   have hp':=hp
   rw [←hSt k] at hp'
   obtain ⟨b,mm,w1,w2,w3⟩:=matchT_get _ _ m1 p hp'
   have hbp:b=p.2:=by
    have:=s.tf p.1 b w1
    exact s.uniq p.1 b p.2 this hp
   subst hbp
   exact matchV_sound hmv p.2 p.2 mm u w2 (fun z hz=>hfit z (by simp [w3 z hz])) (((hv1 p hp u hu).mono sub2).mono sub3|>.mono hE.sub)
  refine ⟨k,moved f g' (asgS (solve X.G X.m σ0) (y1++y2++ex)),⟨?_,fun _=>rfl,?_,?_,?_,?_,hD',?_,gj⟩,gi,gt⟩
  ·exact rematch hH' rfl (cx0_good gt) m4 m5 m2 hfit.right (by rw [hsig];rfl)
  ·intro p hp
   obtain ⟨u,u1,u2⟩:=h.tmp p hp
   exact ⟨u,u1,hvt p hp u u2⟩
  ·intro i L hi
   obtain ⟨y,sh,L',_,h2,rfl⟩:=moved_from hi
   exact hB' y L' h2
  ·intro i x hi
   have hf:=hRp i (hpn i x hi)
   obtain ⟨hlt,h0⟩:=h.pin i x hi
   refine ⟨by rw [←m4];exact (List.getElem?_eq_some_iff.1 hf).1,?_⟩
   have e1:g3 i=x:=by
    have ei:i≠S.heap.length:=by omega
    have ei':i≠S.heap.length+1:=by omega
    rw [←hg3,show (upd g2 (S.heap.length+1) ⟨l,0,0⟩) i=g2 i from upd_other _ _ ei',←hg2,show (upd g1 S.heap.length ⟨D,0,0⟩) i=g1 i from upd_other _ _ ei,g1loc i hlt,h0]
   have e2:g' i=x:=by
    cases hx:g' i with
    |some L=>
     cases hg:g3 i with
     |some M=>rw [hE.sub i M hg] at hx;rw [←e1,hg,hx]
     |none=>exact absurd (hE.new i L hx hg).1 (by simp only [List.length_append,List.length_cons,List.length_nil];omega)
    |none=>
     cases x with
     |none=>rfl
     |some L=>rw [hE.sub i L e1] at hx;cases hx
   simp only [moved,hf,e2]
   cases x<;>simp [shift]
  ·have hb:=h.below
   refine ⟨hE.os.trans hb.os,hE.tape.trans hb.tape,hE.output.trans hb.output,Nat.le_trans hb.size hE.size,fun k hk hno=>(hE.frame k (by have:=hb.size;omega) ?_).trans (hb.frame k hk hno)⟩
   intro i L hi _ he
   rcases g3from i L hi with h1|rfl|rfl
   ·exact hno (he▸h.own i L h1)
   ·have he:D=k:=he
    omega
   ·have he:l=k:=he
    omega
  ·refine ⟨rr,q1,q2,q3,⟨q4.1,fun i v hv=> ?_⟩,q5,q6,q7,?_⟩
   ·obtain ⟨u,u1,u2⟩:=q4.2 i v hv
    have hmem:=s.tf i v hv
    have hp':=hmem
    rw [←hSt k] at hp'
    obtain ⟨b,mm,w1,w2,w3⟩:=matchT_get _ _ m1 (i,v) hp'
    have hbp:b=v:=s.uniq i b v (s.tf i b w1) hmem
    subst hbp
    exact ⟨u,u1,matchV_sound hmv b b mm u w2 (fun z hz=>hfit z (by simp [w3 z hz])) u2⟩
   ·rw [g'D] at q8;cases q8;exact q9
 ·cases hid'
end Go.Ev
namespace Go.Ev
open Go.RowKit
set_option linter.unusedVariables false
set_option linter.unusedSimpArgs false
theorem Stage.rangeUp {P:Program} {tab:TabF} {n:Nat} {W0:Fra} {Z:Exit→Act→World→Prop} {f:Operand} {ps:Array Tmp} {asg body:Code} {c2:List Code} {q:Nat} {ins:List (Option IntKind)} {J:Sig→Prop} {gf:FuncId}
  {ι:Type} {Sh:ι→Shape} {X:Ing} {mb:Bool} {fuel d:Nat} {Wt:ι→Sw} {Jr:ι→List E3→Sig→Prop} {i1 i2 il:Nat} {T1 T2 e:TypeId} {ap:Bool} {offA nA cA sA NA:AVal} {tm:Tm} (k0:ι) {c:Int} {C:ByteArray} {o len N:Nat}
  (hit:UpOk P gf) (hgf: ∀args w,(callFunc gf args).run P w=.ok (.enter gf args) w)
  (htm:tm=tmOf (Sh k0) n) (hfv:ev (cx0 tab) tm f=some (.func (.func gf) [] [.ptr i1 0,.ptr i2 0]))
  (hb1:(Sh k0).heap[i1]? =some (.cells [.lsl il 3 ap offA nA] T1)) (hb2: ∀k,(Sh k).heap[i2]? =some (.cells [cA] T2)) (hb3: ∀k,(Sh k).heap[il]? =some (.lst sA NA cl3 e))
  (s: ∀k,RdOk P tab X q ins mb fuel d (Sh k0).heap.length tm ps asg body (Sh k0).t (Sh k) (Wt k)) (hoN:o+len≤N) (hlen:len≤9223372036854775807)
  (hJ: ∀σ,J σ→InsOk σ q ins→den σ offA=.int .i64 (o:Int)∧den σ nA=.int .i64 (len:Int)∧Jr k0 [] σ)
  (hJr: ∀k pre σ,Jr k pre σ→den σ cA=.int .i64 c∧den σ sA=.str C∧den σ NA=.int .i64 (N:Int))
  (hne: ∀k pre σ,Jr k pre σ→0<len→ ∀τ,Agree q σ τ→ ∀(i:Nat) (s n:AVal) (cl:List (Option IntKind)) (e:TypeId),(Sh k).heap[i]? =some (.lst s n cl e)→den τ n≠.int .i64 0)
  (hex: ∀k pre σ,Jr k pre σ→ ∀(i:Nat) (s n:AVal) (cl:List (Option IntKind)) (e:TypeId),(Sh k0).heap.length≤i→(Sh k).heap[i]? =some (.lst s n cl e)→den σ n≠.int .i64 0) (hgo: ∀k (i:Nat),(Sh k).heap[i]?≠some Blk.gone)
  (ob: ∀k j σ,j<len→(rowE C (o+j)).t≤c→Jr k (uptoE (fun j=>rowE C (o+j)) c j) σ→InsOk σ q ins→σ.tab=tab→segsW (solve X.G X.m (ext3 σ q (rowE C (o+j)))) (fun x s2 σ2=>x=.normal∧ ∃k',s2=Sh k'∧InsOk σ2 q ins∧Jr k' (uptoE (fun j=>rowE C (o+j)) c j++[rowE C (o+j)]) σ2∧σ2.tab=tab) (Wt k) [])
  (next: ∀k,StageM P tab n W0 Z c2 (Sh k) q ins (Jr k (uptoE (fun j=>rowE C (o+j)) c len))):
  Stage P tab n W0 Z (.rangeFunc f ps asg body::c2) (Sh k0) q ins J:=by
 intro a w σ hA hi hj ht
 obtain ⟨h1o,h1n,hjr0⟩:=hJ σ hj hi
 have hA:=hA.agree (s k0).id (⟨fun _ _=>⟨rfl,rfl,rfl⟩,rfl,rfl⟩:Agree q σ σ)
 have hid:=(s k0).id
 obtain ⟨⟨g0,rfl,hH0,hT0,hB0,hP0⟩,hbelow,hsize,hdef⟩:=hA
 have hX: ∃g:Inj,g.sig=g0.sig∧HRel (cx0 tab) g (Sh k0).heap w∧(∀i,g.mp i=none)∧(∀p,p∈(Sh k0).t→ ∃u,a.tmps[p.1]? =some u∧VRel g p.2 u)∧(∀i L,g i=some L→W0.own L.blk)∧ ∀i,i<(Sh k0).heap.length→g i=g0 i:=by
  have hid':=hid
  unfold idOk at hid'
  split at hid'
  ·rename_i lx ly hlx hly
   simp only [Bool.and_eq_true] at hid'
   obtain ⟨⟨i1,i2⟩,i3⟩:=hid'
   have ag:Agree q g0.sig g0.sig:=⟨fun _ _=>⟨rfl,rfl,rfl⟩,rfl,rfl⟩
   refine ⟨moved (idF (Sh k0).heap.length 0) g0 g0.sig,rfl,rematch hH0 rfl (cx0_good ht) (idF_length _ _) i3 hly (idAsg_fits ag i2) rfl,fun _=>rfl,fun p hp=> ?_,fun i L hi=> ?_,fun i hi=> ?_⟩
   ·obtain ⟨u,h1,h2⟩:=hT0 p hp
    obtain ⟨mm,q1,q2⟩:=matchL_mem _ _ lx hlx rfl p.2 (List.mem_map.2 ⟨_,hp,rfl⟩)
    exact ⟨u,h1,matchV_sound (moved_moves _ g0 _ rfl) p.2 p.2 mm u q1 (fun z hz=>idAsg_fits ag i1 z (q2 z hz)) h2⟩
   ·obtain ⟨y,sh,L',_,h2,rfl⟩:=moved_from hi
    exact hB0 y L' h2
   ·have h0:(idF (Sh k0).heap.length 0)[i]? =some (i,0):=by simpa using idF_at (i:=0) hi
    cases hgi:g0 i with
    |none=>simp only [moved,h0,hgi,Option.map_none]
    |some L=>simp only [moved,h0,hgi,Option.map_some,shift,Nat.add_zero,Nat.sub_zero]
  ·cases hid'
 obtain ⟨g,hgs,hH,hmp,hT,hB,hgl⟩:=hX
 have hTR:TRel g tm a:=by
  rw [htm]
  refine ⟨by simp only [tmOf];exact Nat.le_of_eq hsize.symm,fun i v hv=>hT _ (tmOf_get hv)⟩
 have hρ:VRel g (.func (.func gf) [] [.ptr i1 0,.ptr i2 0]) (a.eval f):=hTR.eval hH.sig hH.glob hfv
 obtain ⟨L1,L2,hL1,hL2,hfe⟩: ∃L1 L2:Loc,g i1=some L1∧g i2=some L2∧a.eval f=.func (.func gf) #[] #[.pointer (some ⟨L1.blk,L1.dl+0,none⟩),.pointer (some ⟨L2.blk,L2.dl+0,none⟩)]:=by
  generalize a.eval f=u at hρ
  cases hρ with
  |func _ _ _ fs cs k1 k2=>
   obtain ⟨fs⟩:=fs
   obtain ⟨cs⟩:=cs
   cases k1
   cases k2 with
   |cons _ u1 _ m1 p1 p2=>
    cases p2 with
    |cons _ u2 _ m2 p3 p4=>
     cases p4
     cases p1 with
     |ptr _ _ L1 hL1=>
      cases p3 with
      |ptr _ _ L2 hL2=>exact ⟨L1,L2,hL1,hL2,rfl⟩
 obtain ⟨ao,cap,hsl,hBs,hao⟩: ∃(ao:Option Addr) (cap:Nat),len≤cap∧w.cell? ⟨L1.blk,L1.dl+0,none⟩=some (.slice ao len cap)∧(0<len→ ∃L,g il=some L∧ao=some ⟨L.blk,L.dl+o*3,none⟩):=by
  rcases hH.blk0 i1 _ hb1 (by simp) with hz|⟨L,hL,A,fr,k1,k2,k3,k4,k5⟩
  ·obtain ⟨_,_,_,_,hh,_⟩:=hz;cases hh
  ·rw [hL1] at hL;cases hL
   obtain ⟨v,v1,v2,v3⟩:=k5 0 _ rfl
   cases v2 with
   |lsl _ _ _ _ _ o' m' cap' ao' d1 d2 d3 d4 d5=>
    rw [hgs,h1o] at d1
    rw [hgs,h1n] at d2
    simp only [AVal.int.injEq,true_and] at d1 d2
    have e1:o'=o:=by omega
    have e2:m'=len:=by omega
    subst e1;subst e2
    refine ⟨ao',cap',d3.1,by rw [cell_of k1,v1],fun h0=> ?_⟩
    obtain ⟨L,l1,l2,_⟩:=d5 h0
    exact ⟨L,l1,l2⟩
 refine wpIn_rangeFunc fun fn _=> ?_
 obtain ⟨w2,hw2⟩: ∃w2:World,w2=(w.alloc (.deferred (some []))).alloc (.loop {state:=.ready,pending:=none,fn:=fn,tmps:=a.tmps,params:=ps,assign:=asg,body:=body,defers:=w.heap.size}):=⟨_,rfl⟩
 have henter:(Instr.enterLoop fn a.tmps ps asg body (FR none).round).run P w=.ok (w.heap.size+1,[{target:=.collected w.heap.size,args:= #[]}]) w2:=by
  rw [hw2];exact run_enterLoop_outer _ _ _ _ _
 have hgrow:w.grownBy w2 none:=by
  rw [hw2]
  exact ⟨rfl,rfl,rfl,by simp;omega,fun b hb _=>by
   rw [Below.heap_alloc _ _ b (by simp;omega),Below.heap_alloc w _ b hb]⟩
 have hd2:w2.heap[w.heap.size]? =some (.deferred (some [])):=by
  rw [hw2,Below.heap_alloc _ _ _ (by simp)];exact World.alloc_heap_new w _
 have r1:w2.heap[w.heap.size+1]? =some (.loop {state:=.ready,pending:=none,fn:=fn,tmps:=a.tmps,params:=ps,assign:=asg,body:=body,defers:=w.heap.size}):=by
  have:=World.alloc_heap_new (w.alloc (.deferred (some []))) (.loop {state:=.ready,pending:=none,fn:=fn,tmps:=a.tmps,params:=ps,assign:=asg,body:=body,defers:=w.heap.size})
  rw [World.size_alloc] at this
  rw [hw2];exact this
 clear hw2
 have hw2s:w.heap.size+2≤w2.heap.size:=by
  have:=(Array.getElem?_eq_some_iff.1 r1).1;omega
 obtain ⟨D,hDe⟩: ∃D,D=w.heap.size:=⟨_,rfl⟩
 obtain ⟨l,hle⟩: ∃l,l=w.heap.size+1:=⟨_,rfl⟩
 rw [←hDe] at hd2 henter r1
 rw [hDe,←hle,←hDe] at r1
 rw [show (D+1:Nat)=l by omega] at henter
 refine ⟨l,[{target:=.collected D,args:= #[]}],w2,⟨.fn (.func gf) #[.pointer (some ⟨L1.blk,L1.dl+0,none⟩),.pointer (some ⟨L2.blk,L2.dl+0,none⟩)],#[]++ #[.func (.yield l) #[] #[]]⟩,w2,gf,#[.func (.yield l) #[] #[],.pointer (some ⟨L1.blk,L1.dl+0,none⟩),.pointer (some ⟨L2.blk,L2.dl+0,none⟩)],w2,henter,?_,fun _ _=>trivial,?_,fun h=>(by cases h),?_⟩
 ·simp [resolve,hfe,Deferred.ofValue];rfl
 ·simp [invoke,go_sem,hgf]
 ·--where these lie
  have hw0:W0.w.heap.size≤w.heap.size:=hbelow.size
  have hDl:D≠l:=by omega
  let pn:Nat→Option (Option Loc):=fun i=>if i<(Sh k0).heap.length then some (g.loc i) else none
  have hpn: ∀i x,pn i=some x→i<(Sh k0).heap.length:=by
   intro i x hx
   have hx:(if i<(Sh k0).heap.length then some (g.loc i) else none)=some x:=hx
   split at hx
   ·assumption
   ·cases hx
  have hpin: ∀i,i<(Sh k0).heap.length→pn i=some (g i):=by
   intro i hi
   show (if i<(Sh k0).heap.length then some (g.loc i) else none)=_
   rw [if_pos hi]
  have lt1:i1<(Sh k0).heap.length:=(List.getElem?_eq_some_iff.1 hb1).1
  have lt2:i2<(Sh k0).heap.length:=(List.getElem?_eq_some_iff.1 (hb2 k0)).1
  have ltl:il<(Sh k0).heap.length:=(List.getElem?_eq_some_iff.1 (hb3 k0)).1
  let I:List E3→World→Prop:=fun pre W=> ∃k g',RdJ tab n W0 a (Sh k0).t tm ps asg body D l pn (Sh k).heap (Jr k pre) W g'∧InsOk g'.sig q ins∧g'.sig.tab=tab∧w2.heap.size≤W.heap.size
  have h0:I [] w2:=by
   have hg2H:HRel (cx0 tab) g (Sh k0).heap w2:=hH.grown rfl hmp (cellsBs_Gs (s k0).cells) hgrow (fun r e=>by cases e)
   refine ⟨k0,g,⟨hg2H,hmp,hT,hB,fun i x hx=>⟨hpn i x hx,?_⟩,hbelow.grown hgrow (fun r e=>by cases e),hd2,⟨_,r1,rfl,rfl,hTR,rfl,rfl,rfl,rfl⟩,by rw [hgs];exact hjr0⟩,by rw [hgs];exact hi,by rw [hgs];exact ht,Nat.le_refl _⟩
   have:=hpin i (hpn i x hx)
   rw [hx] at this;cases this;rfl
  have hcalls:=hit l L1.blk (L1.dl+0) L2.blk (L2.dl+0) (match g il with|some L=>L.blk|none=>0) (match g il with|some L=>L.dl+o*3|none=>0) len cap ao c (fun j=>rowE C (o+j)) I w2 hlen ?_ ?_ ?_ ?_ ?_ h0
  ·refine callsIn_FR (Calls.mono hcalls ?_)
   rintro en W3 ⟨⟨v,rfl⟩,k,g',hR,hi',ht',hsz⟩
   obtain ⟨r',p1,p2,p3,p4,p5,p6,p7,p8⟩:=hR.loop
   refine ⟨none,setW W3 l (.loop {r' with state:=.exhausted}),?_,?_⟩
   ·have hg:=run_getLoop (P:=P) p1
    have hb':(r'.state==LoopState.busy)=false:=by rw [p2];rfl
    have hs2:=run_setLoop (P:=P) (.loop {r' with state:=.exhausted}) p1
    rw [←p3]
    simp only [Instr.endLoop,Instr.getLoop,Sem.run_bind,hg,Result.andThen_ok,Sem.run_pure,hb']
    simp [hs2]
   ·have hgr:W3.grownBy (setW W3 l (.loop {r' with state:=.exhausted})) (some l):=⟨rfl,rfl,rfl,by simp [setW],fun b hb hne'=>by
     have:=(setW_wr W3 l (.loop {r' with state:=.exhausted})).other b (fun e=>hne' (by rw [e]))
     exact this⟩
    have hrow: ∀r0,some l=some r0→ ∃o':Obj,W3.heap[r0]? =some o'∧o'.isCells=false:=fun r0 e=>by cases e;exact ⟨_,p1,rfl⟩
    have hdD:(setW W3 l (.loop {r' with state:=.exhausted})).heap[D]? =some (.deferred (some [])):=by
     rw [(setW_wr W3 l (.loop {r' with state:=.exhausted})).other D hDl];exact hR.dfr
    refine next k {a with defers:=[{target:=.collected D,args:= #[]}]++a.defers} (setW W3 l (.loop {r' with state:=.exhausted})) g' D ⟨hR.rel.grown rfl hR.mp (cellsBs_Gs (s k).cells) hgr hrow,hR.mp,?_,hR.own,fun i x hx=> ?_,hR.below.grown hgr (fun r0 e=>by cases e;omega),hsize⟩ (by rw [hdef];rfl) (by omega) hdD ?_ hi' hR.holds ht'
    ·intro p hp
     have hp:p∈(Sh k0).t:=by rw [←(s k).t];exact hp
     exact hR.tmp p hp
    ·obtain ⟨z1,z2⟩:=hP0 i x hx
     have:=hR.pin i (g i) (hpin i z1)
     exact ⟨this.1,by rw [this.2,hgl i z1];exact z2⟩
    ·intro i L hL
     by_cases hi:i<(Sh k0).heap.length
     ·have:=(hR.pin i (g i) (hpin i hi)).2
      rw [this] at hL
      have:=(hH.dom i L hL).2
      omega
     ·intro e
      have hlt:=(hR.rel.dom i L hL).1
      have hkk:(Sh k).heap[i]? =some (Sh k).heap[i]:=List.getElem?_eq_getElem hlt
      have hobj: ∃o',W3.heap[L.blk]? =some o'∧o'.isCells=true:=by
       rcases hR.rel.blk0 i _ hkk (fun hg=>hgo k i (by rw [hkk,hg])) with ⟨s',n',cl,e',hk',_,d2⟩|⟨L',hL',hB'⟩
       ·rw [hk'] at hkk
        exact absurd d2 (hex k _ _ hR.holds i s' n' cl e' (by omega) hkk)
       ·rw [hL] at hL';cases hL'
        rcases cellsBs_get (s k).cells i _ hkk with ⟨c',e',hk'⟩|⟨s',n',cl,e',hk'⟩
        ·rw [hk'] at hB'
         obtain ⟨A,fr,k1,_⟩:=hB';exact ⟨_,k1,rfl⟩
        ·rw [hk'] at hB'
         obtain ⟨S',N',A,fr,_,_,_,_,k1,_⟩:=hB';exact ⟨_,k1,rfl⟩
      obtain ⟨o',h1,h2⟩:=hobj
      rw [e,hR.dfr] at h1
      cases h1;cases h2
  ·intro h9
   obtain ⟨L,l1,l2⟩:=hao h9
   rw [l1,l2]
  ·--growth
   rintro pre A B row ⟨k,g',hR,hi',ht',hsz⟩ hg hr
   refine ⟨k,g',hR.grown (s k).cells hg (fun r0 e=> ?_),hi',ht',Nat.le_trans hsz hg.size⟩
   obtain ⟨h1,o',h2,h3⟩:=hr r0 e
   exact ⟨by omega,by omega,by omega,o',h2,Obj.not_cells_of_walk h3⟩
  ·--what it tells
   rintro pre W' ⟨k,g',hR,hi',ht',hsz⟩
   obtain ⟨j1,j2,j3⟩:=hJr k pre _ hR.holds
   refine ⟨hsz,hR.cells (hb2 k) j1 (by rw [hpin i2 lt2,hL2]),fun j hj=> ?_⟩
   obtain ⟨L,l1,l2⟩:=hao (by omega)
   have:=hR.lst (hb3 k) j2 j3 (by rw [hpin il ltl,l1]) hoN (by omega) j hj
   rw [l1]
   exact this
  ·rintro j W1 hj hc ⟨k,g',hR,hi',ht',hsz⟩
   obtain ⟨fn',tmps',asg',body',hy,hRi⟩:=hR.round (Sh:=Sh) (J2:=fun k'=>Jr k' (uptoE (fun j=>rowE C (o+j)) c j++[rowE C (o+j)])) (s k) hDl hpn (hne k _ _ hR.holds (by omega)) hi' ht' (ob k j _ hj hc hR.holds hi' ht') (fun k'=>(s k').t) (by omega) (by omega)
   refine ⟨fn',tmps',asg',body',hy,hRi.mono ?_⟩
   rintro en W' ⟨rfl,hsz2,k',g'',hR',hi'',ht''⟩
   exact ⟨rfl,k',g'',hR',hi'',ht'',Nat.le_trans hsz hsz2⟩
  ·rw [show w2.cell? ⟨L1.blk,L1.dl+0,none⟩=w.cell? ⟨L1.blk,L1.dl+0,none⟩ from World.cell?_of_block (hgrow.block L1.blk (hH.dom i1 L1 hL1).2 (fun e=>by cases e))]
   exact hBs
def unmarkT (nk:Nat):Tree (Ex×Tm×Hp)→Tree (Ex×Tm×Hp)
 |.leaf x=>match x.2.1.df with
  |[.mark b]=>match Nat.beq b nk with
   |true=>match x.2.2.heap[nk]? with
    |some .dfr=> .leaf (x.1,⟨x.2.1.len,x.2.1.tr,[]⟩,x.2.2)
    |_=> .dead
   |false=> .dead
  |_=> .dead
 |.node i y n=> .node i (unmarkT nk y) (unmarkT nk n)
 |.pick i c y n=> .pick i c (unmarkT nk y) (unmarkT nk n)
 |.or y n=> .or (unmarkT nk y) (unmarkT nk n)
 |.req o v=> .req o (unmarkT nk v)
 |.dead=> .dead
theorem unmarkT_sat {σ:Sig} {nk:Nat} {Q:Ex×Tm×Hp→Prop}: ∀{T:Tree (Ex×Tm×Hp)},Sat σ Q (unmarkT nk T)→
  Sat σ (fun x=>x.2.1.df=[.mark nk]∧x.2.2.heap[nk]? =some .dfr∧Q (x.1,⟨x.2.1.len,x.2.1.tr,[]⟩,x.2.2)) T
 |.leaf x,h=>by
  simp only [unmarkT] at h
  split at h
  ·rename_i b h1
   split at h
   ·rename_i hb
    have hb:=Nat.eq_of_beq_eq_true hb
    subst hb
    split at h
    ·rename_i h2
     exact ⟨h1,h2,h⟩
    ·exact h.elim
   ·exact h.elim
  ·exact h.elim
 |.node i _ _,h=>⟨fun e=>unmarkT_sat (h.1 e),fun e=>unmarkT_sat (h.2 e)⟩
 |.pick i c _ _,h=>⟨fun e=>unmarkT_sat (h.1 e),fun e=>unmarkT_sat (h.2 e)⟩
 |.or _ _,h=>⟨unmarkT_sat h.1,unmarkT_sat h.2⟩
 |.req _ _,h=>⟨h.1,unmarkT_sat h.2⟩
 |.dead,h=>h
def EndZM (tab:TabF) (n:Nat) (W0:Fra) (Z:Exit→Act→World→Prop) (x:SEx) (s:Shape) (σ:Sig):Prop:=
 ∀e a w g D,SExRel x e→g.sig=σ→AtG tab s n W0 a w g→a.defers=[{target:=.collected D,args:= #[]}]→W0.w.heap.size≤D→w.heap[D]? =some (.deferred (some []))→Z e a w
theorem StageM.last {P:Program} {tab:TabF} {n:Nat} {W0:Fra} {Z:Exit→Act→World→Prop} {c1:List Code} {S:Shape} {q:Nat} {ins:List (Option IntKind)} {J:Sig→Prop} {X:Ing} {Wt:Sw} {mb:Bool} {fuel d:Nat}
  (hm:P.follows .mixedOrders=true) (hlt:okLT X.m X.G X.T=true) (hok:okG X.G X.m=true) (hhook: ∀F,Hooks P (cxOf X F)) (hn0:X.n=0) (hid:idOk S X.m=true) (hXt:X.tab=tab) (hrows:X.rows=[]) (hcuts:X.cuts=[]) (hinv: ∀σ,X.inv σ) (hkt:okKt X=true)
  (hreck:okSw (fun F=>unmarkT S.heap.length (runL P (cxOf X) mb fuel (evD P (cxOf X) mb fuel d).1 (evD P (cxOf X) mb fuel d).2 c1 F ⟨n,(tmOf S n).tr,[.mark S.heap.length]⟩ ⟨S.heap++[.dfr],[]⟩)) Wt []=true)
  (aX:X.m=q∧X.ins=ins) (hJ: ∀σ τ,Agree q σ τ→J σ→J τ)
  (o: ∀τ,Eqs τ q X.G→τ.tab=tab→InsOk τ q ins→J τ→segsW τ (EndZM tab n W0 Z) Wt []) (hpin: ∀i,W0.pin i≠none→pinW i Wt=true:=by exact fun _ h=>absurd rfl h):
  StageM P tab n W0 Z c1 S q ins J:=by
 intro a w g D hA hdf hD0 hD hfree hi hj ht
 obtain ⟨rfl,rfl⟩:=aX
 subst hXt
 have ag:=agree_solve X.G X.m g.sig
 have htab:(solve X.G X.m g.sig).tab=X.tab:=by rw [←ag.tab];exact ht
 have hi2:InsOk (solve X.G X.m g.sig) X.m X.ins:=fun i k hlt hik=>by rw [←(ag.val i hlt).1];exact hi i k hlt hik
 have hb:BaseOk X (solve X.G X.m g.sig):=⟨eqs_solve hok,htab,hi2,by rw [hrows];exact rows_nil,by rw [hcuts];exact cuts_nil,hinv _,hkt⟩
 obtain ⟨F,hF,hsat⟩:=okSw_sat hreck ⟨leavesW_pin hpin,o _ (eqs_solve hok) htab hi2 (hJ _ _ ag hj)⟩ trivial
 have hgood:(cxOf X F).Good (solve X.G X.m g.sig):=cx_good hlt hb hF
 have hid':=hid
 unfold idOk at hid'
 split at hid'
 ·rename_i lx ly hlx hly
  simp only [Bool.and_eq_true] at hid'
  obtain ⟨⟨i1,i2⟩,i3⟩:=hid'
  have hH1:HRel (cxOf X F) (moved (idF S.heap.length 0) g (solve X.G X.m g.sig)) S.heap w:=rematch hA.rel hn0 hgood (idF_length _ _) i3 hly (idAsg_fits ag i2) ag.ext.symm
  generalize hg1:moved (idF S.heap.length 0) g (solve X.G X.m g.sig)=g1 at hH1
  have g1sig:g1.sig=solve X.G X.m g.sig:=by rw [←hg1];rfl
  have g1loc: ∀i,i<S.heap.length→g1 i=g i:=by
   intro i hi
   have h0:(idF S.heap.length 0)[i]? =some (i,0):=by simpa using idF_at (i:=0) hi
   rw [←hg1]
   cases hgi:g i with
   |none=>simp only [moved,h0,hgi,Option.map_none]
   |some L=>simp only [moved,h0,hgi,Option.map_some,shift,Nat.add_zero,Nat.sub_zero]
  have g1from: ∀i L,g1 i=some L→g i=some L:=by
   intro i L hi
   have:=(hH1.dom i L hi).1
   rw [g1loc i this] at hi;exact hi
  obtain ⟨hH2,sub2⟩:=hH1.add (show (cxOf X F).n=0 from hn0) (fun i=>by rw [←hg1];rfl) (k:=.dfr) (L:=⟨D,0,0⟩) hD rfl (fun j M hj lj he=>hfree j M (g1from j M hj) he) hD
  generalize hg2:upd g1 S.heap.length ⟨D,0,0⟩=g2 at hH2 sub2
  have g2D:g2 S.heap.length=some ⟨D,0,0⟩:=by rw [←hg2];exact upd_same _ _ _
  have g2from: ∀i L,g2 i=some L→g i=some L∨L=⟨D,0,0⟩:=by
   intro i L hi
   by_cases e2:i=S.heap.length
   ·subst e2;rw [g2D] at hi;cases hi;exact .inr rfl
   ·have hi1:g1 i=some L:=by rw [←hg2] at hi;rwa [show (upd g1 S.heap.length ⟨D,0,0⟩) i=g1 i from upd_other _ _ e2] at hi
    exact .inl (g1from i L hi1)
  have hFR:FRel g2 ⟨n,(tmOf S n).tr,[.mark S.heap.length]⟩ a:=by
   refine ⟨⟨Nat.le_of_eq hA.size.symm,fun i v hv=> ?_⟩,?_⟩
   ·have hmem:(i,v)∈S.t:=tmOf_get (s:=S) (n:=n) hv
    obtain ⟨u,h1,h2⟩:=hA.tmp _ hmem
    obtain ⟨mm,q1,q2⟩:=matchL_mem _ _ lx hlx rfl v (List.mem_map.2 ⟨_,hmem,rfl⟩)
    refine ⟨u,h1,VRel.mono sub2 ?_⟩
    rw [←hg1]
    exact matchV_sound (moved_moves _ g _ ag.ext.symm) v v mm u q1 (fun p hp=>idAsg_fits ag i1 p (q2 p hp)) h2
   ·rw [hdf]
    exact .mark _ ⟨D,0,0⟩ _ _ g2D .nil
  have hsat2:=unmarkT_sat hsat
  refine runL_sound (evD_env (mb:=mb) (fuel:=fuel) hm (cx_ok hlt) hhook d) c1 F _ ⟨S.heap++[.dfr],[]⟩ _ g2 w a hH2 hFR (by rw [sub2.sig,g1sig];exact hsat2) (Z .normal) Z ?_
  rintro en a' w' ⟨e0,t,st⟩ ⟨z1,z2,x,s2,f,l,ex,hx,hdf2,hmt,hft,hQ,hR⟩ ⟨_,g',r1,r2,r3,r4,r5⟩
  simp only at z1 z2 hx hmt r2
  obtain ⟨y1,y2,m1,m2,rfl,m4,m5⟩:=matchS_spec hmt
  have hsig:g'.sig=solve X.G X.m g.sig:=by rw [r3.sub.sig,sub2.sig,g1sig]
  have hfit:Fits g'.sig (asgS (solve X.G X.m g.sig) (y1++y2++ex)) (y1++y2):=by rw [hsig];exact hft
  have g'D:g' S.heap.length=some ⟨D,0,0⟩:=r3.sub _ _ g2D
  have hD':w'.heap[D]? =some (.deferred (some [])):=by
   obtain ⟨L,hL,hB⟩:=r2.blk _ _ z2 (by simp)
   rw [g'D] at hL;cases hL
   exact hB
  have hB': ∀i L,g' i=some L→W0.own L.blk:=by
   intro i L hi
   have hsz:W0.w.heap.size≤w.heap.size:=hA.below.size
   have old: ∀i L,g2 i=some L→W0.own L.blk:=by
    intro i L hi
    rcases g2from i L hi with h1|rfl
    ·exact hA.own i L h1
    ·exact W0.new _ hD0
   cases hg:g2 i with
   |some M=>
    have:=r3.sub i M hg
    rw [this] at hi;cases hi
    exact old i _ hg
   |none=>
    obtain ⟨_,hb⟩:=r3.new i L hi hg
    rcases hb with hb|⟨j',M,hj,hM,_⟩
    ·exact W0.new _ (by omega)
    ·rw [←hM];exact old j' M hj
  have hend:Z en a' w':=by
   refine hQ en a' w' (moved f g' (asgS (solve X.G X.m g.sig) (y1++y2++ex))) D (sameX_rel hx r1) rfl ⟨rematch r2 rfl (cx0_good htab) m4 m5 m2 hfit.right (by rw [hsig];rfl),fun _=>rfl,?_,?_,?_,?_,r5.trans hA.size⟩ ?_ hD0 hD'
   ·intro p hp
    obtain ⟨b,mm,q1,q2,q3⟩:=matchT_get _ _ m1 p hp
    obtain ⟨u,h1,h2⟩:=r4.1.2 p.1 b q1
    exact ⟨u,h1,matchV_sound (moved_moves f g' _ (by rw [hsig];rfl)) p.2 b mm u q2 (fun z hz=>hfit z (by simp [q3 z hz])) h2⟩
   ·intro i L hi
    obtain ⟨y,sh,L',_,h2,rfl⟩:=moved_from hi
    exact hB' y L' h2
   ·intro i x hi
    have hf:=hR i (by rw [hi];simp)
    obtain ⟨hlt',h0⟩:=hA.pin i x hi
    refine ⟨by rw [←m4];exact (List.getElem?_eq_some_iff.1 hf).1,?_⟩
    have e1:g2 i=x:=by
     rw [←hg2,show (upd g1 S.heap.length ⟨D,0,0⟩) i=g1 i from upd_other _ _ (by omega),g1loc i hlt',h0]
    have e2:g' i=x:=by
     cases hx:g' i with
     |some L=>
      cases hg:g2 i with
      |some M=>rw [r3.sub i M hg] at hx;rw [←e1,hg,hx]
      |none=>exact absurd (r3.new i L hx hg).1 (by simp only [List.length_append,List.length_cons,List.length_nil];omega)
     |none=>
      cases x with
      |none=>rfl
      |some L=>rw [r3.sub i L e1] at hx;cases hx
    simp only [moved,hf,e2]
    cases x<;>simp [shift]
   ·have hb:=hA.below
    refine ⟨r3.os.trans hb.os,r3.tape.trans hb.tape,r3.output.trans hb.output,Nat.le_trans hb.size r3.size,fun k hk hno=>(r3.frame k (by have:=hb.size;omega) ?_).trans (hb.frame k hk hno)⟩
    intro i L hi _ he
    rcases g2from i L hi with h1|rfl
    ·exact hno (he▸hA.own i L h1)
    ·have he:D=k:=he
     omega
   ·have:=r4.2
    rw [show t.df=[.mark S.heap.length] from z1] at this
    generalize a'.defers=ds at this
    cases this with
    |mark _ L _ m h1 h2=>
     rw [g'D] at h1;cases h1
     cases h2
     rfl
  cases en with
  |normal=>exact hend
  |_=>exact hend
 ·cases hid'
end Go.Ev
namespace Go.Ev
open Go.RowKit
set_option linter.unusedVariables false
set_option linter.unusedSimpArgs false
theorem bodyPostM_of {P:Program} {fn:Func} {R:Ending→World→Prop} {e:Exit} {a:Act} {w:World} (he:e=.normal∨e=.ret) (h:bodyPost P fn R e a w):bodyPostM (FR none) 0 P fn R e a w:=by
 rcases he with rfl|rfl
 ·obtain ⟨h1,v,h2,h3⟩:=h
  show LeavesInM (FR none) 0 P fn a.tmps R a.defers .returning w
  rw [h1];exact ⟨v,h2,h3⟩
 ·obtain ⟨h1,v,h2,h3⟩:=h
  show LeavesInM (FR none) 0 P fn a.tmps R a.defers .returning w
  rw [h1];exact ⟨v,h2,h3⟩
theorem endZ_mem0 {P:Program} {tab:TabF} {n M:Nat} {fn:Func} {e:SymF} {g:Inj} {w:World} {SE:Shape} {vs:List AVal} {σ:Sig} {x:SEx} {l:Asg} (hSE:resA P (tmOf SE n) SE.heap fn.results.toList=some vs) (hv:packA vs=e.v) (hp:SE.heap=e.post)
  (hH:HRel (cx0 tab) g e.pre w) (ht:g.sig.tab=tab) (hcp:cellsBs e.pre=true) (hc:cellsGs e.post=true) (hid:idE e=some l) (hidl:idAsg M l=true) (hnt:noTwice (idF e.post.length 0)=true) (hd:DenEq σ g.sig l) (hlen2:e.pre.length≤e.post.length) (hext:σ.ext=g.sig.ext) (hx:x=.ret∨x=.normal):
  EndZ tab n (fraOf g w e.pre.length) (bodyPostM (FR none) 0 P fn (MemR tab e g w)) x SE σ:=by
 intro en a w' hxe hA
 have:=endZ_mem hSE hv hp hH ht hcp hc hid hidl hnt hd hlen2 hext hx en a w' hxe hA
 refine bodyPostM_of ?_ this
 rcases hx with rfl|rfl<;>cases en<;>simp only [SExRel] at hxe<;>simp
theorem endZ_memM {P:Program} {tab:TabF} {n M:Nat} {fn:Func} {e:SymF} {g:Inj} {w:World} {SE:Shape} {vs:List AVal} {σ:Sig} {x:SEx} {l:Asg} (hSE:resA P (tmOf SE n) SE.heap fn.results.toList=some vs) (hv:packA vs=e.v) (hp:SE.heap=e.post)
  (hH:HRel (cx0 tab) g e.pre w) (ht:g.sig.tab=tab) (hcp:cellsBs e.pre=true) (hc:cellsGs e.post=true) (hid:idE e=some l) (hidl:idAsg M l=true) (hnt:noTwice (idF e.post.length 0)=true) (hd:DenEq σ g.sig l) (hlen2:e.pre.length≤e.post.length) (hext:σ.ext=g.sig.ext) (hx:x=.ret∨x=.normal):
  EndZM tab n (fraOf g w e.pre.length) (bodyPostM (FR none) 0 P fn (MemR tab e g w)) x SE σ:=by
 intro en a w' g' D hxe hgs hA hdf hD0 hD
 subst hgs
 have hgr:w'.grownBy (w'.putObj D (.deferred none)) (some D):=grownBy_putObj' _ _ _
 have hcG:cellsGs SE.heap=true:=by rw [hp];exact hc
 have hrow: ∀r,some D=some r→ ∃o:Obj,w'.heap[r]? =some o∧o.isCells=false:=fun r e=>by cases e;exact ⟨_,hD,rfl⟩
 have hB:AtG tab SE n (fraOf g w e.pre.length) a (w'.putObj D (.deferred none)) g':=⟨hA.rel.grown rfl hA.mp hcG hgr hrow,hA.mp,hA.tmp,hA.own,hA.pin,hA.below.grown hgr (fun r e=>by cases e;exact hD0),hA.size⟩
 have h0:At tab SE n g'.sig (fraOf g w e.pre.length) {a with defers:=[]} (w'.putObj D (.deferred none)):=⟨⟨g',rfl,hB.rel,hB.tmp,hB.own,hB.pin⟩,hB.below,hB.size,rfl⟩
 have:=endZ_mem (x:=.ret) hSE hv hp hH ht hcp hc hid hidl hnt hd hlen2 hext (.inl rfl) .ret _ _ trivial h0
 obtain ⟨_,v,h2,h3⟩:=this
 have hL:LeavesInM (FR none) 0 P fn a.tmps (MemR tab e g w) a.defers .returning w':=by
  rw [hdf]
  exact ⟨by simp,.inl ⟨D,_,rfl,run_takeDeferred hD,v,h2,h3⟩⟩
 rcases hx with rfl|rfl<;>cases en<;>simp only [SExRel] at hxe
 ·exact hL
 ·exact hL
theorem symF_of_stageM {P:Program} {tab:TabF} {inv:Sig→Prop} {e:SymF} {fn:Func} {n:Nat} (hf:P.funcs[e.f]? =some fn) (hb:fn.body=some (bodyOf fn)) (hn:fn.ntmps=n) (hna:e.args.length≤n)
  (hlen:e.pre.length≤e.post.length) (hcp:cellsBs e.pre=true) (hc:cellsGs e.post=true) (hG:okG e.G e.m=true)
  (h: ∀(g:Inj) (w:World),g.sig.tab=tab→inv g.sig→Eqs g.sig e.m e.G→InsOk g.sig e.m e.ins→(∀d,d∈e.pcs→evalS g.sig d=some (.bool true))→HRel (cx0 tab) g e.pre w→
   Stage P tab n (fraOf g w e.pre.length) (bodyPostM (FR none) 0 P fn (MemR tab e g w)) (flatC (bodyOf fn)) ⟨argT 0 e.args,e.pre⟩ e.m e.ins (fun σ=>Agree e.m g.sig σ)):SymFOk P tab inv e:=by
 refine ⟨hlen,hcp,hc,hG,fun g w args' ht hi he hins hpc hH ha=> ?_⟩
 have hal:args'.size≤n:=by
  have:=ha.length
  simp only [Array.length_toList] at this
  omega
 have hA0:At tab ⟨argT 0 e.args,e.pre⟩ n g.sig (fraOf g w e.pre.length) {tmps:=args'++Array.replicate (n-args'.size) undef,defers:=[]} w:=by
  refine ⟨⟨g,rfl,hH,?_,fun i L hi=> .inr ⟨i,L,hi,rfl⟩,fun i x hi=> ?_⟩,BelowF.refl (fraOf g w e.pre.length),by simp;omega,rfl⟩
  ·intro p hp
   obtain ⟨j,h1,h2⟩:=argT_get _ _ _ hp
   obtain ⟨u,k1,k2⟩:=ha.get j p.2 h2
   refine ⟨u,?_,k2⟩
   have hlt:j<args'.size:=by
    have:=(List.getElem?_eq_some_iff.1 k1).1
    simpa using this
   rw [h1,Nat.zero_add,Array.getElem?_append_left hlt]
   simpa using k1
  ·by_cases hlt:i<e.pre.length
   ·have hi:(if i<e.pre.length then some (g.loc i) else none)=some x:=hi
    rw [if_pos hlt] at hi
    cases hi
    exact ⟨hlt,rfl⟩
   ·have hi:(if i<e.pre.length then some (g.loc i) else none)=some x:=hi
    rw [if_neg hlt] at hi
    cases hi
 have:=flat_wp _ (h g w ht hi he hins hpc hH _ _ g.sig hA0 hins ⟨fun _ _=>⟨rfl,rfl,rfl⟩,rfl,rfl⟩ ht)
 rw [then_self] at this
 rw [←hn] at this
 exact calls_FR (r:=none) (n:=0) (callsIn_of_wp_marks hf hb trivial this)
end Go.Ev
