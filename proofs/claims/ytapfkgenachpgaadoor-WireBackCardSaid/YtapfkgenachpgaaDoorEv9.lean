/- The evaluator, part 9. -/
import Derived.ChangeSame
import Derived.Test.YtapfkgenachpgaaDoorEv8
namespace Go.Ev
open Go.RowKit
set_option linter.unusedVariables false
set_option linter.unusedSimpArgs false
structure EnvS (σ τ:Sig) (env:TT):Prop where
 i: ∀i a k,env.get i=some a→skOf a=some (.i k)→den σ a=.int k (τ.ival i)
 b: ∀i a,env.get i=some a→skOf a=some .b→den σ a=.bool (τ.bval i)
 s: ∀i a,env.get i=some a→skOf a=some .s→den σ a=.str (τ.sval i)
def sbA (env:TT) (a:AVal):Option AVal:=
 match a with
 |.symi k i=>match env.get i with
  |some v=>match skOf v with
   |some (.i k')=>match decide (k=k') with
    |true=>some v
    |false=>none
   |_=>none
  |none=>none
 |.symb i=>match env.get i with
  |some v=>match skOf v with
   |some .b=>some v
   |_=>none
  |none=>none
 |.syms i=>match env.get i with
  |some v=>match skOf v with
   |some .s=>some v
   |_=>none
  |none=>none
 |.int _ _=>some a
 |.bool _=>some a
 |.str _=>some a
 |_=>none
theorem sbA_ok {σ τ:Sig} {env:TT} (h:EnvS σ τ env) {a v:AVal} (he:sbA env a=some v):den σ v=den τ a:=by
 unfold sbA at he
 split at he
 ·rename_i k i
  split at he
  ·rename_i w hw
   split at he
   ·rename_i k' hk
    split at he
    ·rename_i hd
     simp only [decide_eq_true_eq] at hd
     subst hd
     cases he
     exact h.i i _ _ hw hk
    ·cases he
   ·cases he
  ·cases he
 ·rename_i i
  split at he
  ·rename_i w hw
   split at he
   ·rename_i hk;cases he;exact h.b i _ hw hk
   ·cases he
  ·cases he
 ·rename_i i
  split at he
  ·rename_i w hw
   split at he
   ·rename_i hk;cases he;exact h.s i _ hw hk
   ·cases he
  ·cases he
 ·cases he;rfl
 ·cases he;rfl
 ·cases he;rfl
 ·cases he
def sbL (env:TT):List AVal→Option (List AVal)
 |[]=>some []
 |a::l=>match sbA env a with
  |some b=>match sbL env l with
   |some m=>some (b::m)
   |none=>none
  |none=>none
theorem sbL_ok {σ τ:Sig} {env:TT} (h:EnvS σ τ env): ∀{l m:List AVal},sbL env l=some m→m.map (den σ)=l.map (den τ)
 |[],m,he=>by simp only [sbL,Option.some.injEq] at he;subst he;rfl
 |a::l,m,he=>by
  simp only [sbL] at he
  split at he
  ·rename_i b hb
   split at he
   ·rename_i m' hm
    cases he
    simp only [List.map_cons,sbA_ok h hb,sbL_ok h hm]
   ·cases he
  ·cases he
def sbP (env:TT):List (AVal×AVal)→Option (List (AVal×AVal))
 |[]=>some []
 |a::l=>match sbA env a.1 with
  |some b=>match sbA env a.2 with
   |some c=>match sbP env l with
    |some m=>some ((b,c)::m)
    |none=>none
   |none=>none
  |none=>none
theorem sbP_ok {σ τ:Sig} {env:TT} (h:EnvS σ τ env): ∀{l m:List (AVal×AVal)},sbP env l=some m→(m.all fun x=>eqS (den σ x.1) (den σ x.2))=(l.all fun x=>eqS (den τ x.1) (den τ x.2))
 |[],m,he=>by simp only [sbP,Option.some.injEq] at he;subst he;rfl
 |a::l,m,he=>by
  simp only [sbP] at he
  split at he
  ·rename_i b hb
   split at he
   ·rename_i c hc
    split at he
    ·rename_i m' hm
     cases he
     simp only [List.all_cons,sbA_ok h hb,sbA_ok h hc,sbP_ok h hm]
    ·cases he
   ·cases he
  ·cases he
def sbD (env:TT) (d:SDef):Option SDef:=
 match d with
 |.bin o a b=>match sbA env a,sbA env b with
  |some a,some b=>some (.bin o a b)
  |_,_=>none
 |.un o a=>match sbA env a with
  |some a=>some (.un o a)
  |none=>none
 |.conv k a=>match sbA env a with
  |some a=>some (.conv k a)
  |none=>none
 |.low l=>match sbL env l with
  |some l=>some (.low l)
  |none=>none
 |.high l=>match sbL env l with
  |some l=>some (.high l)
  |none=>none
 |.all l=>match sbP env l with
  |some l=>some (.all l)
  |none=>none
 |.fn i k l=>match sbL env l with
  |some l=>some (.fn i k l)
  |none=>none
 |.fnb i l=>match sbL env l with
  |some l=>some (.fnb i l)
  |none=>none
 |.ite c a b=>match sbA env c,sbA env a,sbA env b with
  |some c,some a,some b=>some (.ite c a b)
  |_,_,_=>none
 |.sop o l=>match sbL env l with
  |some l=>some (.sop o l)
  |none=>none
 |.text l=>match sbL env l with
  |some l=>some (.text l)
  |none=>none
 |_=>none
theorem sbD_ok {σ τ:Sig} {env:TT} (h:EnvS σ τ env) (ht:σ.tab=τ.tab) {d e:SDef} (he:sbD env d=some e):evalS σ e=evalS τ d:=by
 have num: ∀(ρ:Sig) (l:List AVal),(l.map fun a=>numS (den ρ a))=(l.map (den ρ)).map numS:=fun ρ l=>by simp
 have byt: ∀(ρ:Sig) (l:List AVal),(l.map fun a=>byteS (den ρ a))=(l.map (den ρ)).map byteS:=fun ρ l=>by simp
 cases d<;>simp only [sbD,reduceCtorEq] at he
 ·split at he
  ·rename_i a b ha hb;cases he;simp only [evalS,sbA_ok h ha,sbA_ok h hb]
  ·cases he
 ·split at he
  ·rename_i a ha;cases he;simp only [evalS,sbA_ok h ha]
  ·cases he
 ·split at he
  ·rename_i a ha;cases he;simp only [evalS,sbA_ok h ha]
  ·cases he
 ·split at he
  ·rename_i a ha;cases he;simp only [evalS,sbL_ok h ha]
  ·cases he
 ·split at he
  ·rename_i a ha;cases he;simp only [evalS,sbL_ok h ha]
  ·cases he
 ·split at he
  ·rename_i a ha;cases he;simp only [evalS];rw [sbP_ok h ha]
  ·cases he
 ·split at he
  ·rename_i a ha;cases he;simp only [evalS];rw [byt,byt,sbL_ok h ha]
  ·cases he
 ·split at he
  ·rename_i a ha;cases he;simp only [evalS];rw [num,num,sbL_ok h ha,ht]
  ·cases he
 ·split at he
  ·rename_i a ha;cases he;simp only [evalS];rw [num,num,sbL_ok h ha,ht]
  ·cases he
 ·split at he
  ·rename_i a b c ha hb hc;cases he;simp only [evalS,sbA_ok h ha,sbA_ok h hb,sbA_ok h hc]
  ·cases he
 ·split at he
  ·rename_i a ha;cases he;simp only [evalS,sbL_ok h ha,ht]
  ·cases he
def stepZ (look:SDef→Option AVal) (env:TT) (d:SDef):Option AVal:=
 match condD d with
 |some _=>none
 |none=>
  let gen:Option AVal:=match sbD env d with
   |some e=>match foldD e with
    |some a=>some a
    |none=>look e
   |none=>none
  match d with
  |.ite c a b=>match sbA env c with
   |some (.bool true)=>sbA env a
   |some (.bool false)=>sbA env b
   |_=>gen
  |_=>gen
def expandZ (look:SDef→Option AVal):List SDef→Nat→TT→TT
 |[],_,env=>env
 |d::G,i,env=>match stepZ look env d with
  |some a=>expandZ look G (i+1) (env.put i a)
  |none=>expandZ look G (i+1) env
theorem stepZ_ok {σ τ:Sig} {env:TT} {look:SDef→Option AVal} (h:EnvS σ τ env) (ht:σ.tab=τ.tab) (hl: ∀d r,look d=some r→evalS σ d=some (den σ r)) {d:SDef} {i:Nat} (he:condD d=none→evalS τ d=some (den τ (resS d i))) {a:AVal} (hs:stepZ look env d=some a):den σ a=den τ (resS d i):=by
 unfold stepZ at hs
 split at hs
 ·cases hs
 ·rename_i hc
  have he:=he hc
  have gen: ∀b,(match sbD env d with
   |some e=>match foldD e with
    |some a=>some a
    |none=>look e
   |none=>none)=some b→den σ b=den τ (resS d i):=by
   intro b hb
   split at hb
   ·rename_i e hd
    have h1:=sbD_ok h ht hd
    split at hb
    ·rename_i a' ha
     cases hb
     have:=foldD_spec (σ:=σ) ha
     rw [h1,he,Option.some.injEq] at this
     exact this.symm
    ·have:=hl _ _ hb
     rw [h1,he,Option.some.injEq] at this
     exact this.symm
   ·cases hb
  simp only at hs
  split at hs
  ·rename_i c x y
   split at hs
   ·rename_i hcc
    have h1:=sbA_ok h hcc
    simp only [evalS] at he
    rw [←h1] at he
    simp only [den,cond_true,Option.some.injEq] at he
    rw [sbA_ok h hs]
    exact he
   ·rename_i hcc
    have h1:=sbA_ok h hcc
    simp only [evalS] at he
    rw [←h1] at he
    simp only [den,cond_false,Option.some.injEq] at he
    rw [sbA_ok h hs]
    exact he
   ·exact gen _ hs
  ·exact gen _ hs
theorem EnvS.put {σ τ:Sig} {env:TT} (h:EnvS σ τ env) {i:Nat} {a:AVal} {d:SDef} (ha:den σ a=den τ (resS d i)):EnvS σ τ (env.put i a):=by
 refine ⟨fun j b k hb hk=> ?_,fun j b hb hk=> ?_,fun j b hb hk=> ?_⟩<;>rcases TT.get_put _ _ _ _ _ hb with ⟨rfl,rfl⟩|⟨_,h2⟩
 ·obtain ⟨⟨n,hn⟩,_⟩:=sk_i hk σ
  rcases resS_cases d j with ⟨k',e⟩|e|e<;>rw [e,hn] at ha<;>simp only [den,AVal.int.injEq,reduceCtorEq] at ha
  rw [hn,ha.2]
 ·exact h.i j b k h2 hk
 ·obtain ⟨⟨n,hn⟩,_⟩:=sk_b hk σ
  rcases resS_cases d j with ⟨k',e⟩|e|e<;>rw [e,hn] at ha<;>simp only [den,AVal.bool.injEq,reduceCtorEq] at ha
  rw [hn,ha]
 ·exact h.b j b h2 hk
 ·obtain ⟨⟨n,hn⟩,_⟩:=sk_s hk σ
  rcases resS_cases d j with ⟨k',e⟩|e|e<;>rw [e,hn] at ha<;>simp only [den,AVal.str.injEq,reduceCtorEq] at ha
  rw [hn,ha]
 ·exact h.s j b h2 hk
theorem expandZ_ok {σ τ:Sig} {look:SDef→Option AVal} (ht:σ.tab=τ.tab) (hl: ∀d r,look d=some r→evalS σ d=some (den σ r)): ∀{G:List SDef} {i:Nat} {env:TT},EnvS σ τ env→(∀k d,G[k]? =some d→condD d=none→evalS τ d=some (den τ (resS d (i+k))))→EnvS σ τ (expandZ look G i env)
 |[],_,_,h,_=>h
 |d::G,i,env,h,he=>by
  have hr: ∀k e,G[k]? =some e→condD e=none→evalS τ e=some (den τ (resS e (i+1+k))):=fun k e hk hc=>by
   have:=he (k+1) e (by simpa using hk) hc
   rw [show i+1+k=i+(k+1) by omega];exact this
  simp only [expandZ]
  split
  ·rename_i a ha
   exact expandZ_ok ht hl (h.put (stepZ_ok h ht hl (he 0 d rfl) ha)) hr
  ·exact expandZ_ok ht hl h hr
mutual
def sbV (env:TT) (ρ:Nat→Nat):AVal→Option AVal
 |.ptr b o=>some (.ptr (ρ b) o)
 |.slice b o l c e=>some (.slice (ρ b) o l c e)
 |.func fn f c=>match sbVs env ρ f,sbVs env ρ c with
  |some f,some c=>some (.func fn f c)
  |_,_=>none
 |.iface t v=>match sbV env ρ v with
  |some v=>some (.iface t v)
  |none=>none
 |.agg l=>match sbVs env ρ l with
  |some l=>some (.agg l)
  |none=>none
 |.tuple l=>match sbVs env ρ l with
  |some l=>some (.tuple l)
  |none=>none
 |.symi k i=>sbA env (.symi k i)
 |.symb i=>sbA env (.symb i)
 |.syms i=>sbA env (.syms i)
 |.int k n=>some (.int k n)
 |.bool b=>some (.bool b)
 |.str s=>some (.str s)
 |.nilptr=>some .nilptr
 |.nilslice=>some .nilslice
 |.nilmap=>some .nilmap
 |.nilfunc=>some .nilfunc
 |.niliface=>some .niliface
 |.row i=>some (.row i)
 |.crow i=>some (.crow i)
 |.rptr i ix j=>match sbA env ix with
  |some ix=>some (.rptr i ix j)
  |none=>none
 |.junk=>some .junk
 |.lsl b z ap off n=>match sbA env off with
  |some off=>match sbA env n with
   |some n=>some (.lsl (ρ b) z ap off n)
   |none=>none
  |none=>none
 |.lptr b z ix j=>match sbA env ix with
  |some ix=>some (.lptr (ρ b) z ix j)
  |none=>none
 |_=>none
def sbVs (env:TT) (ρ:Nat→Nat):List AVal→Option (List AVal)
 |[]=>some []
 |a::l=>match sbV env ρ a,sbVs env ρ l with
  |some b,some m=>some (b::m)
  |_,_=>none
end
theorem sb_rel {g g2:Inj} {env:TT} (he:EnvS g2.sig g.sig env) {a a':AVal} {v:Value} (h:sbA env a=some a') (hv:VRel g a v):VRel g2 a' v:=by
 have hd:=sbA_ok he h
 unfold sbA at h
 split at h
 ·cases hv;exact den_rel.1 (by rw [hd];exact .int _ _)
 ·cases hv;exact den_rel.1 (by rw [hd];exact .bool _)
 ·cases hv;exact den_rel.1 (by rw [hd];exact .str _)
 ·cases h;cases hv;exact .int _ _
 ·cases h;cases hv;exact .bool _
 ·cases h;cases hv;exact .str _
 ·cases h
mutual
theorem sbV_rel {ρ:Nat→Nat} {g g2:Inj} {env:TT} (hl: ∀i L,g i=some L→g2 (ρ i)=some L) (he:EnvS g2.sig g.sig env) (hx:g2.sig.ext=g.sig.ext): ∀{a a':AVal} {v:Value},VRel g a v→sbV env ρ a=some a'→VRel g2 a' v
 |_,_,_,.bool b,h=>by simp only [sbV,Option.some.injEq] at h;subst h;exact .bool b
 |_,_,_,.int k m,h=>by simp only [sbV,Option.some.injEq] at h;subst h;exact .int k m
 |_,_,_,.float k m,h=>by simp [sbV] at h
 |_,_,_,.str s,h=>by simp only [sbV,Option.some.injEq] at h;subst h;exact .str s
 |_,_,_,.nilptr,h=>by simp only [sbV,Option.some.injEq] at h;subst h;exact .nilptr
 |_,_,_,.ptr b off L h1,h=>by simp only [sbV,Option.some.injEq] at h;subst h;exact .ptr _ off L (hl _ _ h1)
 |_,_,_,.nilslice,h=>by simp only [sbV,Option.some.injEq] at h;subst h;exact .nilslice
 |_,_,_,.slice b off len cap ex o' cap' L h1 h0 h2 h3,h=>by simp only [sbV,Option.some.injEq] at h;subst h;exact .slice _ off len cap ex o' cap' L (hl _ _ h1) h0 h2 h3
 |_,_,_,.nilmap,h=>by simp only [sbV,Option.some.injEq] at h;subst h;exact .nilmap
 |_,_,_,.map _ _ _,h=>by simp [sbV] at h
 |_,_,_,.nilfunc,h=>by simp only [sbV,Option.some.injEq] at h;subst h;exact .nilfunc
 |_,_,_,.func fn f c f' c' h1 h2,h=>by
  simp only [sbV] at h
  split at h
  ·rename_i f2 c2 e1 e2;cases h;exact .func fn _ _ f' c' (sbVs_rel hl he hx h1 e1) (sbVs_rel hl he hx h2 e2)
  ·cases h
 |_,_,_,.niliface,h=>by simp only [sbV,Option.some.injEq] at h;subst h;exact .niliface
 |_,_,_,.iface t v v' h1,h=>by
  simp only [sbV] at h
  split at h
  ·rename_i v2 e;cases h;exact .iface t _ v' (sbV_rel hl he hx h1 e)
  ·cases h
 |_,_,_,.agg l l' h1,h=>by
  simp only [sbV] at h
  split at h
  ·rename_i v2 e;cases h;exact .agg _ l' (sbVs_rel hl he hx h1 e)
  ·cases h
 |_,_,_,.tuple l l' h1,h=>by
  simp only [sbV] at h
  split at h
  ·rename_i v2 e;cases h;exact .tuple _ l' (sbVs_rel hl he hx h1 e)
  ·cases h
 |_,_,_,.symi k i,h=>sb_rel he (by simpa only [sbV] using h) (.symi k i)
 |_,_,_,.symb i,h=>sb_rel he (by simpa only [sbV] using h) (.symb i)
 |_,_,_,.syms i,h=>sb_rel he (by simpa only [sbV] using h) (.syms i)
 |_,_,_,.row i X ao cap h1 h2 h3,h=>by simp only [sbV,Option.some.injEq] at h;subst h;exact .row i X ao cap (by rw [hx];exact h1) h2 h3
 |_,_,_,.crow i X ao h1 h2,h=>by simp only [sbV,Option.some.injEq] at h;subst h;exact .crow i X ao (by rw [hx];exact h1) h2
 |_,_,_,.rptr i ix j m X h1 h2 h3,h=>by
  simp only [sbV] at h
  split at h
  ·rename_i ix2 e;cases h;exact .rptr i _ j m X (by rw [hx];exact h1) (by rw [sbA_ok he e];exact h2) h3
  ·cases h
 |_,_,_,.yield _ _ _,h=>by simp [sbV] at h
 |_,_,_,.junk v h1,h=>by simp only [sbV,Option.some.injEq] at h;subst h;exact .junk v h1
 |_,_,_,.geq _ _ _,h=>by simp [sbV] at h
 |_,_,_,.lsl b z ap off n o m cap ao h1 h2 h3 h4 h5,h=>by
  simp only [sbV] at h
  split at h
  ·rename_i off2 e1
   split at h
   ·rename_i n2 e2
    cases h
    refine .lsl _ z ap _ _ o m cap ao (by rw [sbA_ok he e1];exact h1) (by rw [sbA_ok he e2];exact h2) h3 h4 fun hm=> ?_
    obtain ⟨L,a1,a2,a3⟩:=h5 hm
    exact ⟨L,hl _ _ a1,a2,a3⟩
   ·cases h
  ·cases h
 |_,_,_,.lptr b z ix j m L h1 h2 h3 h4,h=>by
  simp only [sbV] at h
  split at h
  ·rename_i ix2 e1
   cases h
   exact .lptr _ z _ j m L (hl _ _ h1) (by rw [sbA_ok he e1];exact h2) h3 h4
  ·cases h
theorem sbVs_rel {ρ:Nat→Nat} {g g2:Inj} {env:TT} (hl: ∀i L,g i=some L→g2 (ρ i)=some L) (he:EnvS g2.sig g.sig env) (hx:g2.sig.ext=g.sig.ext): ∀{a a':List AVal} {v:List Value},LRel g a v→sbVs env ρ a=some a'→LRel g2 a' v
 |_,_,_,.nil,h=>by simp only [sbVs,Option.some.injEq] at h;subst h;exact .nil
 |_,_,_,.cons a v l m h1 h2,h=>by
  simp only [sbVs] at h
  split at h
  ·rename_i b m2 e1 e2;cases h;exact .cons _ v _ m (sbV_rel hl he hx h1 e1) (sbVs_rel hl he hx h2 e2)
  ·cases h
end
theorem sbVs_get {env:TT} {ρ:Nat→Nat}: ∀{l m:List AVal},sbVs env ρ l=some m→ ∀(i:Nat) (a:AVal),m[i]? =some a→ ∃b,l[i]? =some b∧sbV env ρ b=some a
 |[],m,h,i,a,hi=>by simp only [sbVs,Option.some.injEq] at h;subst h;simp at hi
 |b::l,m,h,i,a,hi=>by
  simp only [sbVs] at h
  split at h
  ·rename_i b' m' e1 e2
   cases h
   cases i with
   |zero=>simp at hi;subst hi;exact ⟨b,rfl,e1⟩
   |succ i=>simpa using sbVs_get e2 i a (by simpa using hi)
  ·cases h
theorem sbVs_len {env:TT} {ρ:Nat→Nat}: ∀{l m:List AVal},sbVs env ρ l=some m→m.length=l.length
 |[],m,h=>by simp only [sbVs,Option.some.injEq] at h;subst h;rfl
 |b::l,m,h=>by
  simp only [sbVs] at h
  split at h
  ·rename_i b' m' e1 e2;cases h;simp [sbVs_len e2]
  ·cases h
theorem rowAt_any {g g2:Inj} {cl:List (Option IntKind)} {S:ByteArray} {m j:Nat} {v:Value} (h:VRel g (rowAtD cl S m j) v):VRel g2 (rowAtD cl S m j) v:=by
 rcases cellD_like cl j (S.data.toList.drop (m*rsz cl)) with ⟨k',n3,_,e3⟩|⟨_,b',e3⟩
 ·have:rowAtD cl S m j=.int k' n3:=e3
  rw [this] at h⊢
  cases h;exact .int _ _
 ·have:rowAtD cl S m j=.bool b':=e3
  rw [this] at h⊢
  cases h;exact .bool _
def sbB (env:TT) (ρ:Nat→Nat):Blk→Option Blk
 |.cells c e=>match sbVs env ρ c with
  |some c=>some (.cells c e)
  |none=>none
 |.lst s n cl e=>match sbA env s with
  |some s=>match sbA env n with
   |some n=>some (.lst s n cl e)
   |none=>none
  |none=>none
 |.gone=>some .gone
 |_=>none
def sbBs (env:TT) (ρ:Nat→Nat):List Blk→Option (List Blk)
 |[]=>some []
 |k::l=>match sbB env ρ k with
  |some k=>match sbBs env ρ l with
   |some l=>some (k::l)
   |none=>none
  |none=>none
theorem sbBs_get {env:TT} {ρ:Nat→Nat}: ∀{l m:List Blk},sbBs env ρ l=some m→ ∀(i:Nat) (k:Blk),m[i]? =some k→ ∃b,l[i]? =some b∧sbB env ρ b=some k
 |[],m,h,i,k,hi=>by simp only [sbBs,Option.some.injEq] at h;subst h;simp at hi
 |b::l,m,h,i,k,hi=>by
  simp only [sbBs] at h
  split at h
  ·rename_i k' e1
   split at h
   ·rename_i m' e2
    cases h
    cases i with
    |zero=>simp at hi;subst hi;exact ⟨b,rfl,e1⟩
    |succ i=>simpa using sbBs_get e2 i k (by simpa using hi)
   ·cases h
  ·cases h
theorem sbBs_len {env:TT} {ρ:Nat→Nat}: ∀{l m:List Blk},sbBs env ρ l=some m→m.length=l.length
 |[],m,h=>by simp only [sbBs,Option.some.injEq] at h;subst h;rfl
 |b::l,m,h=>by
  simp only [sbBs] at h
  split at h
  ·split at h
   ·rename_i m' e2;cases h;simp [sbBs_len e2]
   ·cases h
  ·cases h
theorem sbB_gone {env:TT} {ρ:Nat→Nat} {b k:Blk} (h:sbB env ρ b=some k):b=.gone↔k=.gone:=by
 unfold sbB at h
 split at h
 ·split at h<;>cases h
  simp
 ·split at h
  ·split at h<;>cases h
   simp
  ·cases h
 ·cases h;simp
 ·cases h
theorem sbB_loop {env:TT} {ρ:Nat→Nat} {b:Blk} {la:LoopA} (h:sbB env ρ b=some (.loop la)):False:=by
 unfold sbB at h
 split at h
 ·split at h<;>cases h
 ·split at h
  ·split at h<;>cases h
  ·cases h
 ·cases h
 ·cases h
theorem sbB_none {ρ:Nat→Nat} {g g2:Inj} {env:TT} (he:EnvS g2.sig g.sig env) {b k:Blk} (h:sbB env ρ b=some k) (hn:NoneL g b):NoneL g2 k:=by
 obtain ⟨s,n,cl,e,rfl,d1,d2⟩:=hn
 simp only [sbB] at h
 split at h
 ·rename_i s' hs
  split at h
  ·rename_i n' hn'
   cases h
   exact ⟨s',n',cl,e,rfl,by rw [sbA_ok he hs];exact d1,by rw [sbA_ok he hn'];exact d2⟩
  ·cases h
 ·cases h
theorem sbB_rel {ρ:Nat→Nat} {g g2:Inj} {env:TT} {w:World} {L:Loc} (hl: ∀i L,g i=some L→g2 (ρ i)=some L) (he:EnvS g2.sig g.sig env) (hx:g2.sig.ext=g.sig.ext) {b k:Blk} (h:sbB env ρ b=some k) (hb:BRel g w b L):BRel g2 w k L:=by
 unfold sbB at h
 split at h
 ·split at h
  ·rename_i c e c' hc
   cases h
   obtain ⟨C,fr,k1,k2,k3,k4,k5⟩:=hb
   refine ⟨C,fr,k1,k2,k3,by rw [sbVs_len hc];exact k4,?_⟩
   intro j a hj
   obtain ⟨a0,h0,h1⟩:=sbVs_get hc _ _ hj
   obtain ⟨z,y1,y2,y3⟩:=k5 j a0 h0
   exact ⟨z,y1,sbV_rel hl he hx y2 h1,y3⟩
  ·cases h
 ·rename_i s n cl e
  split at h
  ·rename_i s' hs
   split at h
   ·rename_i n' hn'
    cases h
    obtain ⟨S,N,C,fr,e9,b1,b2,b3,b4,b5,b6,b7,b8⟩:=hb
    refine ⟨S,N,C,fr,e9,by rw [sbA_ok he hs];exact b1,by rw [sbA_ok he hn'];exact b2,b3,b4,b5,by rw [hx];exact b6,b7,fun m j hm hj=> ?_⟩
    obtain ⟨v,v1,v2,v3⟩:=b8 m j hm hj
    exact ⟨v,v1,rowAt_any v2,v3⟩
   ·cases h
  ·cases h
 ·cases h;trivial
 ·cases h
def cellsBs:List Blk→Bool
 |[]=>true
 |.cells _ _::l=>cellsBs l
 |.lst _ _ _ _::l=>cellsBs l
 |_::_=>false
def cellsGs:List Blk→Bool
 |[]=>true
 |.cells _ _::l=>cellsGs l
 |.lst _ _ _ _::l=>cellsGs l
 |.gone::l=>cellsGs l
 |_::_=>false
theorem cellsBs_get: ∀{l:List Blk},cellsBs l=true→ ∀(i:Nat) (k:Blk),l[i]? =some k→(∃c e,k=.cells c e)∨ ∃s n cl e,k=.lst s n cl e
 |[],_,i,k,hi=>by simp at hi
 |b::l,h,0,k,hi=>by
  simp at hi;subst hi
  cases b<;>simp [cellsBs] at h⊢
 |b::l,h,i+1,k,hi=>by
  refine cellsBs_get (l:=l) ?_ i k (by simpa using hi)
  cases b<;>simp [cellsBs] at h⊢ <;>exact h
structure SymF where
 f:FuncId
 m:Nat
 ins:List (Option IntKind)
 args:List AVal
 pre:List Blk
 pcs:List SDef
 G:List SDef
 v:AVal
 post:List Blk
 xs:List AVal:=[]
structure SymFOk (P:Program) (tab:TabF) (inv:Sig→Prop) (e:SymF):Prop where
 len:e.pre.length≤e.post.length
 cpre:cellsBs e.pre=true
 cpost:cellsGs e.post=true
 ok:okG e.G e.m=true
 call: ∀(g:Inj) (w:World) (args':Array Value),g.sig.tab=tab→inv g.sig→Eqs g.sig e.m e.G→InsOk g.sig e.m e.ins→(∀d,d∈e.pcs→evalS g.sig d=some (.bool true))→HRel (cx0 tab) g e.pre w→LRel g e.args args'.toList→
  Calls P e.f args' w fun en w'=> ∃(u:Value) (g1:Inj),en=.returned u∧g1.sig=g.sig∧VRel g1 e.v u∧HRel (cx0 tab) g1 e.post w'∧(∀i,i<e.pre.length→g1 i=g i)∧(∀i L,e.pre.length≤i→g1 i=some L→w.heap.size≤L.blk∨ ∃j M,g j=some M∧M.blk=L.blk)∧
   w.heap.size≤w'.heap.size∧(∀b,b<w.heap.size→(∀i L,g i=some L→L.blk≠b)→w'.heap[b]? =w.heap[b]?)∧w'.os=w.os∧w'.tape=w.tape∧w'.output=w.output
def asgLt (m:Nat):Asg→Bool
 |[]=>true
 |p::l=>Nat.blt p.1 m&&asgLt m l
theorem asgLt_mem {m:Nat}: ∀{l:Asg},asgLt m l=true→ ∀p,p∈l→p.1<m
 |[],_,p,hp=>by cases hp
 |q::l,h,p,hp=>by
  simp only [asgLt,Bool.and_eq_true] at h
  rcases List.mem_cons.1 hp with rfl|hp
  ·simpa using h.1
  ·exact asgLt_mem h.2 p hp
def envF (e:SymF) (l:Asg):TT:=putsT (TT.skel (e.m+e.G.length) 12 0 1) l
def pcOk (look:SDef→Option AVal) (env:TT):List SDef→Bool
 |[]=>true
 |d::l=>(match sbD env d with
  |some e=>match foldD e with
   |some (.bool true)=>true
   |some _=>false
   |none=>match look e with
    |some (.bool true)=>true
    |_=>false
  |none=>false)&&pcOk look env l
theorem pcOk_spec {σ τ:Sig} {env:TT} {look:SDef→Option AVal} (h:EnvS σ τ env) (ht:σ.tab=τ.tab) (hl: ∀d r,look d=some r→evalS σ d=some (den σ r)): ∀{l:List SDef},pcOk look env l=true→ ∀d,d∈l→evalS τ d=some (.bool true)
 |[],_,d,hd=>by cases hd
 |q::l,hp,d,hd=>by
  simp only [pcOk,Bool.and_eq_true] at hp
  rcases List.mem_cons.1 hd with rfl|hd
  ·have h1:=hp.1
   split at h1
   ·rename_i e he
    rw [←sbD_ok h ht he]
    split at h1
    ·rename_i hf;exact foldD_spec hf
    ·cases h1
    ·split at h1
     ·rename_i hk;exact hl _ _ hk
     ·cases h1
   ·cases h1
  ·exact pcOk_spec h ht hl hp.2 d hd
def allLt:List Nat→Nat→Bool
 |[],_=>true
 |x::l,n=>Nat.blt x n&&allLt l n
theorem allLt_mem {n:Nat}: ∀{l:List Nat},allLt l n=true→ ∀x,x∈l→x<n
 |[],_,x,hx=>by cases hx
 |y::l,h,x,hx=>by
  simp only [allLt,Bool.and_eq_true] at h
  rcases List.mem_cons.1 hx with rfl|hx
  ·simpa [Nat.blt_eq] using h.1
  ·exact allLt_mem h.2 x hx
def atmV:AVal→Bool
 |.int _ _=>true
 |.bool _=>true
 |.str _=>true
 |.symi _ _=>true
 |.symb _=>true
 |.syms _=>true
 |_=>false
def atomL:List AVal→Bool
 |[]=>true
 |a::l=>atmV a&&atomL l
def toV:AVal→Value
 |.int k n=> .int k n
 |.bool b=> .bool b
 |.str s=> .string s
 |_=> .nilFunc
theorem atom_val {g:Inj} {a:AVal} (h:atmV a=true):VRel g a (toV (den g.sig a))∧ ∀v,VRel g a v→v=toV (den g.sig a):=by
 cases a<;>simp only [atmV,Bool.false_eq_true] at h
 all_goals exact ⟨by constructor,fun v hv=>by cases hv;rfl⟩
theorem toV_inj {g1 g2:Inj} {a b:AVal} (ha:atmV a=true) (hb:atmV b=true) (h:toV (den g1.sig a)=toV (den g2.sig b)):den g1.sig a=den g2.sig b:=by
 cases a<;>simp only [atmV,Bool.false_eq_true] at ha<;>cases b<;>simp only [atmV,Bool.false_eq_true] at hb<;>simp only [den,toV,Value.int.injEq,Value.bool.injEq,Value.string.injEq,reduceCtorEq] at h<;>simp only [den,h]
theorem atom_eq {g1 g2:Inj}: ∀{l m:List AVal} {vs:List Value},atomL l=true→atomL m=true→LRel g1 l vs→LRel g2 m vs→l.map (den g1.sig)=m.map (den g2.sig)
 |[],[],_,_,_,_,_=>rfl
 |[],_::_,_,_,_,h,k=>by cases h;cases k
 |_::_,[],_,_,_,h,k=>by cases k;cases h
 |a::l,b::m,_,ha,hb,.cons _ v _ vs h1 h2,.cons _ _ _ _ k1 k2=>by
  simp only [atomL,Bool.and_eq_true] at ha hb
  have e1:=toV_inj ha.1 hb.1 (((atom_val ha.1).2 _ h1).symm.trans ((atom_val hb.1).2 _ k1))
  simp only [List.map_cons,e1,atom_eq ha.2 hb.2 h2 k2]
theorem atom_vals {g:Inj}: ∀{l:List AVal},atomL l=true→ ∃vs,LRel g l vs
 |[],_=>⟨[],.nil⟩
 |a::l,h=>by
  simp only [atomL,Bool.and_eq_true] at h
  obtain ⟨vs,hv⟩:=atom_vals (g:=g) h.2
  exact ⟨_::vs,.cons _ _ _ _ (atom_val h.1).1 hv⟩
theorem lrel_split {g:Inj}: ∀{l m:List AVal} {vs us:List Value},l.length=vs.length→LRel g (l++m) (vs++us)→LRel g l vs∧LRel g m us
 |[],m,[],us,_,h=>⟨.nil,h⟩
 |[],m,_::_,us,hl,h=>by simp at hl
 |_::_,m,[],us,hl,h=>by simp at hl
 |a::l,m,v::vs,us,hl,.cons _ _ _ _ h1 h2=>by
  obtain ⟨k1,k2⟩:=lrel_split (by simpa using hl) h2
  exact ⟨.cons _ _ _ _ h1 k1,k2⟩
theorem lrel_both {g:Inj}: ∀{l m:List AVal} {vs us:List Value},LRel g l vs→LRel g m us→LRel g (l++m) (vs++us)
 |[],m,_,us,.nil,h=>h
 |a::l,m,_,us,.cons _ _ _ _ h1 h2,h=> .cons _ _ _ _ h1 (lrel_both h2 h)
def tryM (look:SDef→Option AVal) (kd:Nat→Option IntKind) (ys:List AVal) (e:SymF) (m:List Nat) (args:List AVal) (hp:Hp):Option (AVal×Hp):=
  match (match Nat.beq e.xs.length ys.length&&(atomL e.xs&&atomL ys) with
    |true=>matchL (zs m) (e.xs++e.args) (ys++args)
    |false=>none) with
  |some x=>match matchH (zs m) hp.heap e.pre 0 with
    |some y=>match Nat.beq m.length e.pre.length&&(noTwice (zs m)&&(consB (x++y) (x++y)&&(asgLt e.m (x++y)&&(insAsg kd (x++y) e.ins 0&&pcOk look (expandZ look e.G e.m (envF e (x++y))) e.pcs)))) with
      |true=>match allLt m hp.heap.length with
       |false=>none
       |true=>match sbV (expandZ look e.G e.m (envF e (x++y))) (rho m hp.heap.length) e.v with
        |some v=>match sbBs (expandZ look e.G e.m (envF e (x++y))) (rho m hp.heap.length) e.post with
          |some bs=>some (v,⟨wr m bs hp.heap,m++hp.log⟩)
          |none=>none
        |none=>none
      |false=>none
    |none=>none
  |none=>none
def firstF (look:SDef→Option AVal) (kd:Nat→Option IntKind) (ys:List AVal) (f:FuncId) (args:List AVal) (hp:Hp):List SymF→Option (AVal×Hp)
 |[]=>none
 |e::l=>match Nat.beq f e.f with
  |true=>match tryM look kd ys e (uH hp.heap e.pre 0 (uL [] e.args args)) args hp with
   |some r=>some r
   |none=>firstF look kd ys f args hp l
  |false=>firstF look kd ys f args hp l
theorem firstF_mem {look:SDef→Option AVal} {kd:Nat→Option IntKind} {ys:List AVal} {f:FuncId} {args:List AVal} {hp:Hp} {r:AVal×Hp}: ∀{l:List SymF},firstF look kd ys f args hp l=some r→ ∃e m,e∈l∧e.f=f∧tryM look kd ys e m args hp=some r
 |[],h=>by cases h
 |x::l,h=>by
  simp only [firstF] at h
  have rest:firstF look kd ys f args hp l=some r→ ∃e m,e∈x::l∧e.f=f∧tryM look kd ys e m args hp=some r:=fun h=>
   let ⟨e,m,h1,h2⟩:=firstF_mem h
   ⟨e,m,List.mem_cons_of_mem _ h1,h2⟩
  split at h
  ·rename_i hf
   split at h
   ·rename_i r' hr
    cases h
    exact ⟨x,_,List.mem_cons_self ..,(Nat.eq_of_beq_eq_true hf).symm,hr⟩
   ·exact rest h
  ·exact rest h
def symMfx (kd:Nat→Option IntKind) (ys:List AVal) (tbl:List SymF):MHookF:=fun look f args hp=>firstF look kd ys f args hp tbl
def symMf (kd:Nat→Option IntKind) (tbl:List SymF):MHookF:=symMfx kd [] tbl
theorem mem_symFx {P:Program} {X:Ing} {tbl:List SymF} {ys:List AVal} {inv:Sig→Prop} (h: ∀e,e∈tbl→SymFOk P X.tab inv e) (hT:okLT X.m X.G X.T=true) (hn:X.n=0) (hi: ∀e,e∈tbl→ ∀σ τ:Sig,τ.ext=σ.ext→e.xs.map (den τ)=ys.map (den σ)→X.inv σ→inv τ)
  (F:List Fact) (f:FuncId) (args:List AVal) (hp:Hp) (v:AVal) (hp':Hp) (hm:symMfx (kdX X) ys tbl (symS (baseOf X F)) f args hp=some (v,hp')):CallP P (cxOf X F) f args hp (.val v) hp':=by
 obtain ⟨e,m,hmem,rfl,hm2⟩:=firstF_mem hm
 clear hm
 have hm:=hm2
 clear hm2
 obtain ⟨hlen,hpre,hpost,hG,hc⟩:=h e hmem
 unfold tryM at hm
 split at hm
 ·rename_i x f20
  obtain ⟨f2,hys⟩:matchL (zs m) (e.xs++e.args) (ys++args)=some x∧(Nat.beq e.xs.length ys.length&&(atomL e.xs&&atomL ys))=true:=by
   split at f20
   ·rename_i hc;exact ⟨f20,hc⟩
   ·cases f20
  clear f20
  simp only [Bool.and_eq_true] at hys
  obtain ⟨y1,y2,y3⟩:=hys
  have y1:=Nat.eq_of_beq_eq_true y1
  split at hm
  ·rename_i y f3
   split at hm
   ·rename_i hfit
    split at hm
    ·cases hm
    rename_i hall
    split at hm
    ·rename_i vv hvv
     split at hm
     ·rename_i bs hbs
      cases hm
      simp only [Bool.and_eq_true] at hfit
      obtain ⟨f1,f4,f5,f6,f7,f8⟩:=hfit
      have f1:=Nat.eq_of_beq_eq_true f1
      have hmlt: ∀y,y∈m→y<hp.heap.length:=allLt_mem hall
      have hcell: ∀(j x:Nat),m[j]? =some x→Live hp.heap x:=by
       intro j x hj
       have hlt:j<e.pre.length:=by rw [←f1];exact (List.getElem?_eq_some_iff.1 hj).1
       have hxl:=hmlt x (List.mem_iff_getElem?.2 ⟨j,hj⟩)
       obtain ⟨l,h1,_⟩:=matchH_get e.pre 0 _ f3 j _ (List.getElem?_eq_getElem hlt)
       rw [Nat.zero_add] at h1
       refine ⟨_,List.getElem?_eq_getElem hxl,fun hg=> ?_⟩
       rcases cellsBs_get hpre j _ (List.getElem?_eq_getElem hlt) with ⟨c,t,hk⟩|⟨s,n,cl,t,hk⟩
       ·rw [hk] at h1
        simp only [matchB,zs_of hj,List.getElem?_eq_getElem hxl,hg] at h1
        cases h1
       ·rw [hk] at h1
        simp only [matchB,zs_of hj,List.getElem?_eq_getElem hxl,hg] at h1
        split at h1<;>cases h1
      have hlive: ∀y,y∈m→Live hp.heap y:=by
       intro y hy
       obtain ⟨j,hj⟩:=List.mem_iff_getElem?.1 hy
       exact hcell j y hj
      have hbl:=sbBs_len hbs
      have hlp:m.length≤bs.length:=by rw [hbl,f1];exact hlen
      have hat: ∀j x,m[j]? =some x→(wr m bs hp.heap)[x]? =bs[j]?:=fun j x hj=>wr_at m _ _ j x hlp f4 hmlt hj
      have hback: ∀i,i<hp.heap.length→Live (wr m bs hp.heap) i→Live hp.heap i:=by
       intro i hi hl
       by_cases hin:i∈m
       ·exact hlive i hin
       ·obtain ⟨k,hk,hne⟩:=hl
        rw [wr_old m _ _ i hi hin] at hk
        exact ⟨k,hk,hne⟩
      have hwl:(wr m bs hp.heap).length=hp.heap.length+(e.post.length-m.length):=by rw [wr_len,hbl]
      refine ⟨⟨by show hp.heap.length≤(wr _ _ _).length;omega,⟨m,rfl,fun i hi hn=>wr_old m _ _ i hi hn⟩,hback,fun i la hi hl=> ?_⟩,fun g w args' hH hl=> ?_⟩
      ·by_cases hin:i∈m
       ·obtain ⟨j,hj⟩:=List.mem_iff_getElem?.1 hin
        have hl:(wr m bs hp.heap)[i]? =some (.loop la):=hl
        rw [hat j i hj] at hl
        obtain ⟨b,hb,hbb⟩:=sbBs_get hbs _ _ hl
        exact (sbB_loop hbb).elim
       ·have hl:(wr m bs hp.heap)[i]? =some (.loop la):=hl
        rw [wr_old m _ _ i hi hin] at hl
        exact ⟨la,hl,rfl,rfl,rfl,rfl,rfl⟩
      have hbase:=base_good hT hH.sig.ok.2 hH.sig.ok.1
      have hlook: ∀d r,symS (baseOf X F) d=some r→evalS g.sig d=some (den g.sig r):=fun d r hd=>symS_den hbase hd
      let τ0:Sig:=asgS g.sig (x++y)
      let τ:Sig:=solve e.G e.m τ0
      have ag:=agree_solve e.G e.m τ0
      have hext:τ.ext=g.sig.ext:=ag.ext.symm
      have htab:τ.tab=X.tab:=by rw [←ag.tab];exact hH.sig.ok.2.tab
      have hfit0:Fits g.sig τ0 (x++y):=by
       have:=fits_asg (σ:=g.sig) [] f5
       simpa using this
      have hfit:Fits g.sig τ (x++y):=by
       intro p hp
       have hlt:=asgLt_mem f6 p hp
       obtain ⟨h1,h2,h3⟩:=hfit0 p hp
       obtain ⟨a1,a2,a3⟩:=ag.val p.1 hlt
       exact ⟨fun k n hn=>by rw [←a1];exact h1 k n hn,fun b hb=>by rw [←a2];exact h2 b hb,fun s hs=>by rw [←a3];exact h3 s hs⟩
      have henv:EnvS g.sig τ (envF e (x++y)):=by
       have hin: ∀i a,(envF e (x++y)).get i=some a→(i,a)∈x++y:=by
        intro i a hi
        rcases putsT_get _ _ hi with h|h
        ·exact h
        ·rw [TT.get_skel] at h;cases h
       refine ⟨fun i a k hi hk=> ?_,fun i a hi hk=> ?_,fun i a hi hk=> ?_⟩
       ·obtain ⟨⟨n,hn⟩,_⟩:=sk_i hk g.sig
        have hn':den g.sig a=.int k n:=hn
        rw [hn',(hfit (i,a) (hin i a hi)).1 k n hn']
       ·obtain ⟨⟨n,hn⟩,_⟩:=sk_b hk g.sig
        have hn':den g.sig a=.bool n:=hn
        rw [hn',(hfit (i,a) (hin i a hi)).2.1 n hn']
       ·obtain ⟨⟨n,hn⟩,_⟩:=sk_s hk g.sig
        have hn':den g.sig a=.str n:=hn
        rw [hn',(hfit (i,a) (hin i a hi)).2.2 n hn']
      have heq:Eqs τ e.m e.G:=eqs_solve hG
      have htt:g.sig.tab=τ.tab:=by rw [htab];exact hH.sig.ok.2.tab
      have henv2:EnvS g.sig τ (expandZ (symS (baseOf X F)) e.G e.m (envF e (x++y))):=expandZ_ok htt hlook henv fun k d hk hcd=>heq.at k d hk hcd
      have hins:InsOk τ e.m e.ins:=by
       intro i k hlt hik
       have hik':e.ins[i]? =some (some k):=by
        cases hc:e.ins[i]? with
        |none=>rw [hc] at hik;cases hik
        |some o=>rw [hc] at hik;simp only [Option.getD_some] at hik;rw [hik]
       obtain ⟨a,h1,h2⟩:=insAsg_get f7 i k hik'
       rw [Nat.zero_add] at h1
       obtain ⟨n,h3,h4⟩:=inK_spec (fun i k h=>kdX_spec hH.sig.ok.2.eqs hH.sig.ok.2.ins hH.sig.ok.2.kt i k h) h2
       have:τ0.ival i=n:=by
        simp only [τ0,asgS,h1]
        cases a<;>simp only [inK,Bool.false_eq_true] at h2<;>simp only [valS,h3,iOf]
       rw [←(ag.val i hlt).1,this];exact h4
      have hpc:=pcOk_spec henv2 htt hlook f8
      have R:HRel (cx0 X.tab) (moved (zs m) g τ) e.pre w:=rematch hH rfl (cx0_good htab) (by rw [zs_len,f1]) f4 f3 (fun p hp=>hfit p (by simp [hp])) hext
      have hmv: ∀j L,moved (zs m) g τ j=some L→ ∃x,m[j]? =some x∧g x=some L:=by
       intro j L hj
       obtain ⟨x,sh,L',h1,h2,rfl⟩:=moved_from hj
       obtain ⟨h3,rfl⟩:=zs_get h1
       exact ⟨x,h3,h2⟩
      obtain ⟨yv,hyv⟩:=atom_vals (g:=g) y3
      have hboth:LRel (moved (zs m) g τ) (e.xs++e.args) (yv++args'.toList):=matchL_sound (moved_moves (zs m) g τ hext) _ _ x _ f2 (fun p hp=>hfit p (by simp [hp])) (lrel_both hyv hl)
      obtain ⟨hxs,hargs⟩:=lrel_split (by rw [y1];exact hyv.length) hboth
      have hxe:e.xs.map (den τ)=ys.map (den g.sig):=atom_eq (g1:=moved (zs m) g τ) (g2:=g) y2 y3 hxs hyv
      refine (hc (moved (zs m) g τ) w args' htab (hi e hmem _ _ hext hxe hH.sig.ok.2.inv) heq hins hpc R hargs).mono ?_
      rintro en w' ⟨u,g1,rfl,hs1,hu,hP,hsame,hnew,hsz,hfr,hos,htp,hout⟩
      have hs1:g1.sig=τ:=hs1
      have hgn: ∀i L,g i=some L→i<hp.heap.length:=fun i L hi=>(hH.dom i L hi).1
      let g2:Inj:=⟨fun i=>if i<hp.heap.length then g i else g1 (i-hp.heap.length+m.length),g.sig,g.mp⟩
      have lo: ∀i,i<hp.heap.length→g2 i=g i:=fun i hi=>by show (if i<hp.heap.length then g i else _)=_;rw [if_pos hi]
      have hi': ∀i,¬i<hp.heap.length→g2 i=g1 (i-hp.heap.length+m.length):=fun i hi=>by show (if i<hp.heap.length then g i else _)=_;rw [if_neg hi]
      have hsub:Sub g g2:=⟨fun i L hi=>by rw [lo i (hgn i L hi)];exact hi,rfl,fun _ _ h=>h⟩
      have hold: ∀j L,j<m.length→g1 j=some L→ ∃x,m[j]? =some x∧g x=some L:=by
       intro j L hj h1
       rw [hsame j (by rw [←f1];exact hj)] at h1
       exact hmv j L h1
      have hren: ∀i L,g1 i=some L→g2 (rho m hp.heap.length i)=some L:=by
       intro i L h1
       by_cases hlt:i<m.length
       ·obtain ⟨x,hx,hgx⟩:=hold i L hlt h1
        have:rho m hp.heap.length i=x:=by simp [rho,hx]
        rw [this,lo x (hgn x L hgx)];exact hgx
       ·have:rho m hp.heap.length i=i-m.length+hp.heap.length:=by simp [rho,List.getElem?_eq_none (by omega:m.length≤i)]
        rw [this,hi' _ (by omega),show i-m.length+hp.heap.length-hp.heap.length+m.length=i by omega]
        exact h1
      have hfresh: ∀i L,¬i<hp.heap.length→g2 i=some L→w.heap.size≤L.blk∨ ∃x M,x∈m∧g x=some M∧M.blk=L.blk:=by
       intro i L hlt h2
       rw [hi' i hlt] at h2
       rcases hnew _ L (by rw [←f1];omega) h2 with h3|⟨j,M,h3,h4⟩
       ·exact .inl h3
       ·obtain ⟨x,hx,hgx⟩:=hmv j M h3
        exact .inr ⟨x,M,List.mem_iff_getElem?.2 ⟨_,hx⟩,hgx,h4⟩
      have hlv2: ∀i,¬i<hp.heap.length→Live (wr m bs hp.heap) i→Live e.post (i-hp.heap.length+m.length):=by
       rintro i h1 ⟨k,hk,hne⟩
       rw [show i=hp.heap.length+(i-hp.heap.length) by omega,wr_new m _ _ _ hlp] at hk
       obtain ⟨b,hb2,hbb⟩:=sbBs_get hbs _ _ hk
       exact ⟨b,by rw [Nat.add_comm];exact hb2,fun hg=>hne ((sbB_gone hbb).1 hg)⟩
      have hapart: ∀i j L M,i<hp.heap.length→ ¬j<hp.heap.length→g i=some L→g2 j=some M→L.blk=M.blk→Live (wr m bs hp.heap) i→Live (wr m bs hp.heap) j→False:=by
       intro i j L M h1 h2 hi hj hb li lj
       rcases hfresh j M h2 hj with h3|⟨x,N,hx,hgx,hN⟩
       ·have a1:=(hH.dom i L hi).2
        omega
       ·have hxi:=hH.inj i x L N hi hgx (by rw [hb,hN]) (hback i h1 li) (hlive x hx)
        subst hxi
        obtain ⟨q,hq⟩:=List.mem_iff_getElem?.1 hx
        have hql:q<m.length:=(List.getElem?_eq_some_iff.1 hq).1
        have lq:Live e.post q:=by
         obtain ⟨k,hk,hne⟩:=li
         rw [hat q i hq] at hk
         obtain ⟨b,hb2,hbb⟩:=sbBs_get hbs _ _ hk
         exact ⟨b,hb2,fun hg=>hne ((sbB_gone hbb).1 hg)⟩
        have lj2:=hlv2 j h2 lj
        have hgq:g1 q=some L:=by
         rw [hsame q (by rw [←f1];exact hql)]
         have:=(moved_moves (zs m) g τ hext).1 q i 0 L (zs_of hq) hi
         rw [this];rfl
        rw [hi' j h2] at hj
        have:=hP.inj q _ L M hgq hj hb lq lj2
        omega
      have hkeep: ∀b,b<w.heap.size→(∀x L,x∈m→g x=some L→L.blk≠b)→w'.heap[b]? =w.heap[b]?:=by
       intro b hb hno
       refine hfr b hb fun i L hiL=> ?_
       obtain ⟨x,hx,hgx⟩:=hmv i L hiL
       exact hno x L (List.mem_iff_getElem?.2 ⟨_,hx⟩) hgx
      have he2:EnvS g2.sig g1.sig (expandZ (symS (baseOf X F)) e.G e.m (envF e (x++y))):=by rw [hs1];exact henv2
      have hx2:g2.sig.ext=g1.sig.ext:=by rw [hs1];exact hext.symm
      refine ⟨g2,⟨u,rfl,sbV_rel hren he2 hx2 hu hvv⟩,⟨?_,?_,?_,?_,hH.sig,?_⟩,?_⟩
      ·intro i L hi
       show i<(wr _ _ _).length∧_
       by_cases hlt:i<hp.heap.length
       ·rw [lo i hlt] at hi
        have:=hH.dom i L hi
        exact ⟨by rw [hwl];omega,by omega⟩
       ·rw [hi' i hlt] at hi
        have:=hP.dom _ L hi
        exact ⟨by rw [hwl];omega,this.2⟩
      ·intro i j L M hi hj hb li lj
       by_cases h1:i<hp.heap.length<;>by_cases h2:j<hp.heap.length
       ·rw [lo i h1] at hi;rw [lo j h2] at hj
        exact hH.inj i j L M hi hj hb (hback i h1 li) (hback j h2 lj)
       ·rw [lo i h1] at hi
        exact (hapart i j L M h1 h2 hi hj hb li lj).elim
       ·rw [lo j h2] at hj
        exact (hapart j i M L h2 h1 hj hi hb.symm lj li).elim
       ·have l1:=hlv2 i h1 li
        have l2:=hlv2 j h2 lj
        rw [hi' i h1] at hi;rw [hi' j h2] at hj
        have:=hP.inj _ _ L M hi hj hb l1 l2
        omega
      ·intro i k hi hk
       have hi:(wr m bs hp.heap)[i]? =some k:=hi
       by_cases h1:i<hp.heap.length
       ·by_cases hin:i∈m
        ·obtain ⟨j,hj⟩:=List.mem_iff_getElem?.1 hin
         rw [hat j i hj] at hi
         obtain ⟨b,hb,hbb⟩:=sbBs_get hbs _ _ hi
         rcases hP.blk0 _ _ hb (fun hg=>hk ((sbB_gone hbb).1 hg)) with hz|⟨L,hL,hBr⟩
         ·exact .inl (sbB_none he2 hbb hz)
         have hjl:j<m.length:=(List.getElem?_eq_some_iff.1 hj).1
         obtain ⟨x,hx,hgx⟩:=hold j L hjl hL
         rw [hj] at hx;cases hx
         exact .inr ⟨L,by rw [lo i h1];exact hgx,sbB_rel hren he2 hx2 hbb hBr⟩
        ·rw [wr_old m _ _ i h1 hin] at hi
         rcases hH.blk0 i k hi hk with hz|⟨L,hL,hBr⟩
         ·exact .inl (hz.mono rfl)
         refine .inr ⟨L,by rw [lo i h1];exact hL,(hBr.of_same (hkeep L.blk (hH.dom i L hL).2 fun x M hx hgx hbb=> ?_)).mono hsub⟩
         have:=hH.inj x i M L hgx hL hbb (hlive x hx) ⟨k,hi,hk⟩
         exact hin (this▸hx)
       ·have hnl:i=hp.heap.length+(i-hp.heap.length):=by omega
        rw [hnl,wr_new m _ _ _ hlp] at hi
        obtain ⟨b,hb,hbb⟩:=sbBs_get hbs _ _ hi
        rcases hP.blk0 _ _ hb (fun hg=>hk ((sbB_gone hbb).1 hg)) with hz|⟨L,hL,hBr⟩
        ·exact .inl (sbB_none he2 hbb hz)
        refine .inr ⟨L,by rw [hi' i h1,show i-hp.heap.length+m.length=m.length+(i-hp.heap.length) by omega];exact hL,sbB_rel hren he2 hx2 hbb hBr⟩
      ·intro i hi
       have:(cxOf X F).n=0:=hn
       omega
      ·refine ⟨fun i Y hi hY=> ?_,fun i Y hi=> ?_,fun i Y h0 hi=>Nat.lt_of_lt_of_le (hH.frz.top i Y h0 hi) hsz⟩
       ·have f:=hH.frz.row i Y hi hY
        refine ⟨f.1.of_same (hkeep _ f.1.lt fun x M hx hgx=>f.2 x M hgx (hlive x hx)),fun j N hj lj=> ?_⟩
        by_cases h1:j<hp.heap.length
        ·rw [lo j h1] at hj
         exact f.2 j N hj (hback j h1 lj)
        ·rcases hfresh j N h1 hj with a1|⟨x,M,hx,hgx,hM⟩
         ·have a2:=f.1.lt
          omega
         ·rw [←hM];exact f.2 x M hgx (hlive x hx)
       ·have f:=hH.frz.mp i Y hi
        refine ⟨by show i<(wr _ _ _).length;rw [hwl];omega,f.2.1.of_same (hkeep _ f.2.1.lt fun x M hx hgx=>f.2.2 x M hgx (hlive x hx)),fun j N hj lj=> ?_⟩
        by_cases h1:j<hp.heap.length
        ·rw [lo j h1] at hj
         exact f.2.2 j N hj (hback j h1 lj)
        ·rcases hfresh j N h1 hj with a1|⟨x,M,hx,hgx,hM⟩
         ·have a2:=f.2.1.lt
          omega
         ·rw [←hM];exact f.2.2 x M hgx (hlive x hx)
      ·refine ⟨hsub,?_,fun i Y hi hn=> ?_,by show _≤(wr _ _ _).length;omega,hback,hsz,fun b hb hno=>hkeep b hb fun x L hx hgx=>hno x L hgx (hlive x hx),hos,htp,hout⟩
       ·intro i L hi hn
        by_cases h1:i<hp.heap.length
        ·rw [lo i h1] at hi;rw [hn] at hi;cases hi
        ·exact ⟨by omega,(hfresh i L h1 hi).imp id fun ⟨x,M,hx,hgx,hM⟩=>⟨x,M,hgx,hM,hlive x hx⟩⟩
       ·exact absurd hi (by show¬g.mp i=some Y;rw [hn];simp)
     ·cases hm
    ·cases hm
   ·cases hm
  ·cases hm
 ·cases hm
theorem mem_symF {P:Program} {X:Ing} {tbl:List SymF} {inv:Sig→Prop} (h: ∀e,e∈tbl→SymFOk P X.tab inv e) (hT:okLT X.m X.G X.T=true) (hn:X.n=0) (hi: ∀σ τ:Sig,τ.ext=σ.ext→X.inv σ→inv τ)
  (F:List Fact) (f:FuncId) (args:List AVal) (hp:Hp) (v:AVal) (hp':Hp) (hm:symMf (kdX X) tbl (symS (baseOf X F)) f args hp=some (v,hp')):CallP P (cxOf X F) f args hp (.val v) hp':=
 mem_symFx h hT hn (fun _ _ σ τ he _ hv=>hi σ τ he hv) F f args hp v hp' hm
def MemR (tab:TabF) (e:SymF) (g:Inj) (w:World) (en:Ending) (w':World):Prop:=
 ∃(u:Value) (g1:Inj),en=.returned u∧g1.sig=g.sig∧VRel g1 e.v u∧HRel (cx0 tab) g1 e.post w'∧(∀i,i<e.pre.length→g1 i=g i)∧(∀i L,e.pre.length≤i→g1 i=some L→w.heap.size≤L.blk∨ ∃j M,g j=some M∧M.blk=L.blk)∧
   w.heap.size≤w'.heap.size∧(∀b,b<w.heap.size→(∀i L,g i=some L→L.blk≠b)→w'.heap[b]? =w.heap[b]?)∧w'.os=w.os∧w'.tape=w.tape∧w'.output=w.output
def fraOf (g:Inj) (w:World) (n:Nat):Fra where
 w:=w
 own:=fun b=>w.heap.size≤b∨ ∃i L,g i=some L∧L.blk=b
 new:=fun _ h=> .inl h
 pin:=fun i=>if i<n then some (g.loc i) else none
def idE (e:SymF):Option Asg:=
 match matchV (idF e.post.length 0) e.v e.v,matchH (idF e.post.length 0) e.post e.post 0 with
 |some x,some y=>some (x++y)
 |_,_=>none
def DenEq (σ τ:Sig):Asg→Prop
 |[]=>True
 |p::r=>den σ p.2=den τ p.2∧DenEq σ τ r
theorem denEq_fits {σ τ:Sig} {M:Nat}: ∀{l:Asg},idAsg M l=true→DenEq σ τ l→Fits σ τ l
 |[],_,_=>fun p hp=>by cases hp
 |q::l,hl,hd=>by
  simp only [idAsg,Bool.and_eq_true] at hl
  intro p hp
  rcases List.mem_cons.1 hp with rfl|hp
  ·have h1:=hl.1
   have h2:=hd.1
   split at h1
   all_goals first
    |cases h1
    |skip
   all_goals
    rename_i hx
    simp only [Bool.and_eq_true] at h1
    have e:=Nat.eq_of_beq_eq_true h1.1
    rw [hx] at h2⊢
    rw [←e] at h2⊢
    refine ⟨fun k n hn=> ?_,fun b hn=> ?_,fun s hn=> ?_⟩<;>rw [h2] at hn<;>simp only [den,AVal.int.injEq,AVal.bool.injEq,AVal.str.injEq,reduceCtorEq] at hn
    first
     |exact hn.2
     |exact hn
  ·exact denEq_fits hl.2 hd.2 p hp
theorem endZ_mem {P:Program} {tab:TabF} {n M:Nat} {fn:Func} {e:SymF} {g:Inj} {w:World} {SE:Shape} {vs:List AVal} {σ:Sig} {x:SEx} {l:Asg} (hSE:resA P (tmOf SE n) SE.heap fn.results.toList=some vs) (hv:packA vs=e.v) (hp:SE.heap=e.post)
  (hH:HRel (cx0 tab) g e.pre w) (ht:g.sig.tab=tab) (hcp:cellsBs e.pre=true) (hc:cellsGs e.post=true) (hid:idE e=some l) (hidl:idAsg M l=true) (hnt:noTwice (idF e.post.length 0)=true) (hd:DenEq σ g.sig l) (hlen2:e.pre.length≤e.post.length) (hext:σ.ext=g.sig.ext) (hx:x=.ret∨x=.normal):
  EndZ tab n (fraOf g w e.pre.length) (bodyPost P fn (MemR tab e g w)) x SE σ:=by
 intro en a w' hxe hA
 obtain ⟨g',rfl,hH',hT,hO,hP⟩:=hA.ex
 have hT1:TRel g' (tmOf SE n) a:=by
  refine ⟨by simp only [tmOf,hA.size];exact Nat.le_refl _,?_⟩
  intro i v hv
  exact hT _ (tmOf_get hv)
 obtain ⟨u,hres,h2⟩:=results_run hH' hT1 hSE
 rw [hv] at h2
 rw [hp] at hH'
 have hfit:=denEq_fits hidl hd
 unfold idE at hid
 split at hid
 ·rename_i lx ly hlx hly
  cases hid
  have R:HRel (cx0 tab) (moved (idF e.post.length 0) g' g.sig) e.post w':=rematch hH' rfl (cx0_good ht) (idF_length _ _) hnt hly hfit.right hext.symm
  have hmv: ∀i,i<e.post.length→moved (idF e.post.length 0) g' g.sig i=g' i:=by
   intro i hi
   have h0:(idF e.post.length 0)[i]? =some (i,0):=by simpa using idF_at (i:=0) hi
   cases hg:g' i with
   |none=>simp only [moved,h0,hg,Option.map_none]
   |some L=>simp only [moved,h0,hg,Option.map_some,shift,Nat.add_zero,Nat.sub_zero]
  have hR:MemR tab e g w (.returned u) w':=by
   refine ⟨u,moved (idF e.post.length 0) g' g.sig,rfl,rfl,matchV_sound (moved_moves _ g' _ hext.symm) e.v e.v lx u hlx hfit.left h2,R,fun i hi=> ?_,fun i L hi hL=> ?_,hA.below.size,fun b hb hno=>hA.below.frame b hb ?_,hA.below.os,hA.below.tape,hA.below.output⟩
   ·have h3:=(hP i (g.loc i) (by show (if i<e.pre.length then some (g.loc i) else none)=_;rw [if_pos hi])).2
    rw [hmv i (by have:=hlen2;omega),h3]
   ·have hlt:=(R.dom i L hL).1
    rw [hmv i hlt] at hL
    rcases hO i L hL with h3|⟨j,N,hj,hb⟩
    ·exact .inl h3
    ·exact .inr ⟨j,N,hj,hb⟩
   ·rintro (h3|⟨i,L,hi,h3⟩)
    ·exact absurd h3 (by omega)
    ·exact hno i L hi h3
  have:a.defers=[]∧ ∃v,(results fn a.tmps).run P w'=.ok v w'∧MemR tab e g w (.returned v) w':=⟨hA.defers,_,hres,hR⟩
  cases en with
  |normal=>exact this
  |ret=>exact this
  |_=>rcases hx with rfl|rfl<;>exact hxe.elim
 ·cases hid
theorem symF_of_stage {P:Program} {tab:TabF} {inv:Sig→Prop} {e:SymF} {fn:Func} {n:Nat} (hf:P.funcs[e.f]? =some fn) (hb:fn.body=some (bodyOf fn)) (hn:fn.ntmps=n) (hna:e.args.length≤n)
  (hlen:e.pre.length≤e.post.length) (hcp:cellsBs e.pre=true) (hc:cellsGs e.post=true) (hG:okG e.G e.m=true)
  (h: ∀(g:Inj) (w:World),g.sig.tab=tab→inv g.sig→Eqs g.sig e.m e.G→InsOk g.sig e.m e.ins→(∀d,d∈e.pcs→evalS g.sig d=some (.bool true))→HRel (cx0 tab) g e.pre w→
   Stage P tab n (fraOf g w e.pre.length) (bodyPost P fn (MemR tab e g w)) (flatC (bodyOf fn)) ⟨argT 0 e.args,e.pre⟩ e.m e.ins (fun σ=>Agree e.m g.sig σ)):SymFOk P tab inv e:=by
 refine ⟨hlen,hcp,hc,hG,fun g w args' ht hi he hins hpc hH ha=> ?_⟩
 refine calls_body hf hb ?_
 rw [hn]
 have hal:args'.size≤n:=by
  have:=ha.length
  simp only [Array.length_toList] at this
  omega
 have hA0:At tab ⟨argT 0 e.args,e.pre⟩ n g.sig (fraOf g w e.pre.length) {tmps:=args'++Array.replicate (n-args'.size) undef,defers:=[]} w:=by
  refine ⟨⟨g,rfl,hH,?_,fun i L hi=> .inr ⟨i,L,hi,rfl⟩,fun i x hi=> ?_⟩,BelowF.refl (fraOf g w e.pre.length),by simp;omega,rfl⟩
  ·intro p hp
   obtain ⟨j,h1,h2⟩:=argT_get _ _ _ hp
   obtain ⟨u,k1,k2⟩:=ha.get j p.2 h2
   refine ⟨u,?_,k2⟩
   have hlt:j<args'.size:=by
    have:=(List.getElem?_eq_some_iff.1 k1).1
    simpa using this
   rw [h1,Nat.zero_add,Array.getElem?_append_left hlt]
   simpa using k1
  ·by_cases hlt:i<e.pre.length
   ·have hi:(if i<e.pre.length then some (g.loc i) else none)=some x:=hi
    rw [if_pos hlt] at hi
    cases hi
    exact ⟨hlt,rfl⟩
   ·have hi:(if i<e.pre.length then some (g.loc i) else none)=some x:=hi
    rw [if_neg hlt] at hi
    cases hi
 have:=flat_wp _ (h g w ht hi he hins hpc hH _ _ g.sig hA0 hins ⟨fun _ _=>⟨rfl,rfl,rfl⟩,rfl,rfl⟩ ht)
 rwa [then_self] at this
end Go.Ev
namespace Go.Ev
open Go.RowKit
set_option linter.unusedVariables false
set_option linter.unusedSimpArgs false
theorem calls_of_stageG {P:Program} {f:FuncId} {fn:Func} {tab:TabF} {n q:Nat} {ins:List (Option IntKind)} {R:Ending→World→Prop} {J:Sig→Prop} {args:List AVal} {args':Array Value} {σ0:Sig} {W:World}
  (hf:P.funcs[f]? =some fn) (hb:fn.body=some (bodyOf fn)) (hn:fn.ntmps=n) (ht:σ0.tab=tab) (ha:LRel ⟨fun _=>none,σ0,fun _=>none⟩ args args'.toList) (hna:args'.size≤n)
  (hz: ∀i X,σ0.ext i=some X→0<X.len→FzOk X W) (hi:InsOk σ0 q ins) (hj:J σ0) (h:Stage P tab n W (bodyPost P fn R) (flatC (bodyOf fn)) ⟨argT 0 args,[]⟩ q ins J)
  (hz2: ∀i X,1000≤i→σ0.ext i=some X→X.blk<W.heap.size:=by (intro i X h0 h;first|(cases h;done)|(have h9:(if i=0 then _ else none)=some X:=h;rw [if_neg (by omega)] at h9;cases h9))):Calls P f args' W R:=by
 refine calls_body hf hb ?_
 rw [hn]
 have hA0:At tab ⟨argT 0 args,[]⟩ n σ0 W {tmps:=args'++Array.replicate (n-args'.size) undef,defers:=[]} W:=at_start (tab:=tab) ht ha hna W hz hz2
 have:=flat_wp _ (h _ _ σ0 hA0 hi hj ht)
 rwa [then_self] at this
structure RowE (E:Nat→Option Fz) (X:Fz) (σ:Sig):Prop where
 ext:σ.ext=E
 len:σ.ival 1=X.len
 lo:0≤σ.ival 0
 hi:σ.ival 0≤X.len
theorem RowE.agree {E:Nat→Option Fz} {X:Fz} {q:Nat} (h2:2≤q) {σ τ:Sig} (ag:Agree q σ τ) (h:RowE E X σ):RowE E X τ:=
 ⟨by rw [←ag.ext];exact h.ext,by rw [←(ag.val 1 (by omega)).1];exact h.len,by rw [←(ag.val 0 (by omega)).1];exact h.lo,by rw [←(ag.val 0 (by omega)).1];exact h.hi⟩
def InvF {ι:Type} (tab:TabF) (n:Nat) (W0:Fra) (S:ι→Shape) (q:Nat) (ins:List (Option IntKind)) (J:ι→Sig→Prop) (μ:Sig→Nat):Nat→Act→World→Prop:=
 fun k a w=> ∃i σ,At tab (S i) n σ W0 a w∧InsOk σ q ins∧J i σ∧σ.tab=tab∧k=μ σ
theorem EndZ.loopF {ι:Type} {P:Program} {tab:TabF} {n:Nat} {W0:Fra} {Z:Exit→Act→World→Prop} {id:Nat} {c2:List Code} {S:ι→Shape} {q:Nat} {ins:List (Option IntKind)} {J:ι→Sig→Prop} {μ:Sig→Nat} {k:Nat} {σ:Sig} {s:Shape} (i:ι) (hs:s=S i)
  (hi:InsOk σ q ins) (hj:J i σ) (ht:σ.tab=tab) (hk:μ σ<k):EndZ tab n W0 (LoopZ P id c2 Z (InvF tab n W0 S q ins J μ) k) .normal s σ:=by
 subst hs
 intro e a w hxe hA
 cases e<;>simp only [SExRel] at hxe
 exact .inl ⟨rfl,μ σ,hk,i,σ,hA,hi,hj,ht,rfl⟩
end Go.Ev
namespace Go.Ev
open Go.RowKit
set_option linter.unusedVariables false
set_option linter.unusedSimpArgs false
def bI (b:Bool):Int:=bif b then 1 else 0
theorem ob_dec {b:Bool} {P:Prop} [Decidable P] (h:b=decide P):(bI b=1∧P)∨(bI b=0∧ ¬P):=by
 subst h
 by_cases hp:P
 ·exact .inl ⟨by simp [bI,hp],hp⟩
 ·exact .inr ⟨by simp [bI,hp],hp⟩
theorem ob_eq {b:Bool} {x y:Int} (h:b=(x==y)):(bI b=1∧x=y)∨(bI b=0∧ ¬x=y):=by
 refine ob_dec (h.trans ?_)
 rw [Bool.eq_iff_iff];simp
theorem ob_ne {b:Bool} {x y:Int} (h:b=(x !=y)):(bI b=1∧ ¬x=y)∨(bI b=0∧x=y):=by
 subst h
 by_cases hp:x=y
 ·exact .inr ⟨by simp [bI,hp],hp⟩
 ·exact .inl ⟨by rw [bne_iff_ne.2 hp];rfl,hp⟩
theorem ob_rT {b:Bool} {P Q:Prop} (h:(bI b=1∧P)∨(bI b=0∧Q)) (f:b=true):P:=by
 subst f
 rcases h with h|h
 ·exact h.2
 ·exact absurd h.1 (by simp [bI])
theorem ob_rF {b:Bool} {P Q:Prop} (h:(bI b=1∧P)∨(bI b=0∧Q)) (f:b=false):Q:=by
 subst f
 rcases h with h|h
 ·exact absurd h.1 (by simp [bI])
 ·exact h.2
theorem wr_i64 (n:Int):IntKind.i64.wrap n=(n+9223372036854775808)%18446744073709551616-9223372036854775808:=by simp [IntKind.wrap,IntKind.bits,IntKind.signed];omega
theorem wr_u64 (n:Int):IntKind.u64.wrap n=n%18446744073709551616:=by simp [IntKind.wrap,IntKind.bits,IntKind.signed]
theorem wr_u16 (n:Int):IntKind.u16.wrap n=n%65536:=by simp [IntKind.wrap,IntKind.bits,IntKind.signed]
theorem wr_u8 (n:Int):IntKind.u8.wrap n=n%256:=by simp [IntKind.wrap,IntKind.bits,IntKind.signed]
theorem fdiv_pow {a p:Int} (hp:0<p):a.fdiv p=a/p:=Int.fdiv_eq_ediv_of_nonneg _ (by omega)
def bAt (s:ByteArray) (i:Int):Int:=((s.data.toList.getD i.toNat 0).toNat:Nat)
theorem bAt_in (s:ByteArray) (i:Int):0≤bAt s i∧bAt s i<256:=by
 unfold bAt
 have:=UInt8.toNat_lt (s.data.toList.getD i.toNat 0)
 omega
theorem eqLen {σ:Sig} {i j:Nat} (h:evalS σ (.sop .len [.syms j])=some (den σ (.symi .i64 i))):σ.ival i=((σ.sval j).size:Nat):=by
 simp only [evalS,List.map,den,sopA,Option.some.injEq,AVal.int.injEq,true_and] at h
 exact h.symm
theorem eqAt {σ:Sig} {i j:Nat} {a:AVal} {k:IntKind} {n:Int} (h:evalS σ (.sop .at [.syms j,a])=some (den σ (.symi .u8 i))) (ha:den σ a=.int k n):σ.ival i=bAt (σ.sval j) n:=by
 simp only [evalS,List.map,ha] at h
 simp only [den,sopA,Option.some.injEq,AVal.int.injEq,true_and] at h
 exact h.symm
theorem eqSub {σ:Sig} {i j:Nat} {a b:AVal} {k k':IntKind} {n m:Int} (h:evalS σ (.sop .sub [.syms j,a,b])=some (den σ (.syms i))) (ha:den σ a=.int k n) (hb:den σ b=.int k' m):σ.sval i=(σ.sval j).extract n.toNat m.toNat:=by
 simp only [evalS,List.map,ha,hb] at h
 simp only [den,sopA,Option.some.injEq,AVal.str.injEq] at h
 exact h.symm
theorem bAt_sub {s:ByteArray} {a b i:Int} (h0:0≤a) (h1:a≤b) (h2:b≤s.size) (h3:0≤i) (h4:i<b-a):bAt (s.extract a.toNat b.toNat) i=bAt s (a+i):=by
 unfold bAt
 have e:(s.extract a.toNat b.toNat).data.toList=(s.data.toList.drop a.toNat).take (b.toNat-a.toNat):=by
  rw [ByteArray.data_extract,Array.toList_extract,List.extract_eq_take_drop]
 rw [e,List.getD_eq_getElem?_getD,List.getD_eq_getElem?_getD,List.getElem?_take_of_lt (by omega),List.getElem?_drop,show a.toNat+i.toNat=(a+i).toNat by omega]
def encL (l:List UInt8):Int:=l.foldl (fun a b=>a*256+b.toNat) 1
theorem encL_snoc (l:List UInt8) (b:UInt8):encL (l++[b])=encL l*256+b.toNat:=by simp [encL]
theorem encL_pos (l:List UInt8):1≤encL l:=by
 have h: ∀(l:List UInt8) (a:Int),1≤a→1≤l.foldl (fun (a:Int) (b:UInt8)=>a*256+(b.toNat:Int)) a:=by
  intro l
  induction l with
  |nil=>intro a h;exact h
  |cons b l ih=>intro a h;exact ih _ (by show 1≤a*256+(b.toNat:Int);omega)
 exact h l 1 (by decide)
theorem encL_inj: ∀(n:Nat) (l m:List UInt8),l.length=n→encL l=encL m→l=m
 |0,l,m,hl,h=>by
  have:l=[]:=List.eq_nil_of_length_eq_zero hl
  subst this
  rcases List.eq_nil_or_concat m with rfl|⟨m',b,rfl⟩
  ·rfl
  ·exfalso
   rw [List.concat_eq_append,encL_snoc] at h
   have h1:=encL_pos m'
   have h2:encL []=1:=rfl
   omega
 |n+1,l,m,hl,h=>by
  rcases List.eq_nil_or_concat l with rfl|⟨l',b,rfl⟩
  ·simp at hl
  ·rw [List.concat_eq_append] at*
   rcases List.eq_nil_or_concat m with rfl|⟨m',c,rfl⟩
   ·exfalso
    rw [encL_snoc] at h
    have h1:=encL_pos l'
    have h2:encL []=1:=rfl
    omega
   ·rw [List.concat_eq_append] at*
    rw [encL_snoc,encL_snoc] at h
    have hb:=UInt8.toNat_lt b
    have hc:=UInt8.toNat_lt c
    have e1:b.toNat=c.toNat:=by omega
    have e2:encL l'=encL m':=by omega
    rw [encL_inj n l' m' (by simpa using hl) e2,UInt8.toNat_inj.1 e1]
noncomputable def decB (n:Int):ByteArray:=open Classical in if h: ∃s,encB s=n then h.choose else .empty
theorem dec_enc (s:ByteArray):decB (encB s)=s:=by
 unfold decB
 have h: ∃t,encB t=encB s:=⟨s,rfl⟩
 rw [dif_pos h]
 have h1:=h.choose_spec
 have h2:=encL_inj _ _ _ rfl (show encL h.choose.data.toList=encL s.data.toList from h1)
 generalize h.choose=t at h2
 cases t;cases s
 simp only [ByteArray.mk.injEq]
 exact Array.toList_inj.1 h2
def segsPv (σ:Sig) (Q:SEx→Shape→Sig→Prop):Sv→Prop
 |.leaf x s _ l ex=>Q x s (asgS σ (l++ex))
 |.leafE x s _ l ex=>EqsL σ l l∧Q x s (asgS σ (l++ex))
 |.req o v=>o.Sat σ∧segsPv σ Q v
 |.dead=>False
 |.node i y n=>(σ.bval i=true→segsPv σ Q y)∧(σ.bval i=false→segsPv σ Q n)
 |.pick i k y n=>(σ.ival i=k→segsPv σ Q y)∧(¬σ.ival i=k→segsPv σ Q n)
def segsPw (σ:Sig) (Q:SEx→Shape→Sig→Prop):Sw→Prop
 |.run v=>segsPv σ Q v
 |.dead=>False
 |.node i y n=>(σ.bval i=true→segsPw σ Q y)∧(σ.bval i=false→segsPw σ Q n)
 |.pick i k y n=>(σ.ival i=k→segsPw σ Q y)∧(¬σ.ival i=k→segsPw σ Q n)
theorem segs_no {σ:Sig} {Q:SEx→Shape→Sig→Prop}: ∀{v:Sv} {F:List Fact},¬Holds σ F→segs σ Q v F
 |.leaf ..,_,h=>fun hF=>absurd hF h
 |.leafE ..,_,h=>fun hF=>absurd hF h
 |.req ..,_,h=>⟨fun hF=>absurd hF h,segs_no h⟩
 |.dead,_,h=>h
 |.node ..,_,h=>⟨segs_no fun hF=>h hF.2,segs_no fun hF=>h hF.2⟩
 |.pick ..,_,h=>⟨segs_no fun hF=>h hF.2,segs_no fun hF=>h hF.2⟩
theorem segsW_no {σ:Sig} {Q:SEx→Shape→Sig→Prop}: ∀{v:Sw} {F:List Fact},¬Holds σ F→segsW σ Q v F
 |.run ..,_,h=>segs_no (v:=_) h
 |.dead,_,h=>h
 |.node ..,_,h=>⟨segsW_no fun hF=>h hF.2,segsW_no fun hF=>h hF.2⟩
 |.pick ..,_,h=>⟨segsW_no fun hF=>h hF.2,segsW_no fun hF=>h hF.2⟩
theorem segsPv_segs {σ:Sig} {Q:SEx→Shape→Sig→Prop}: ∀{v:Sv} {F:List Fact},segsPv σ Q v→segs σ Q v F
 |.leaf ..,_,h=>fun _=>h
 |.leafE ..,_,h=>fun _=>h
 |.req ..,_,h=>⟨fun _=>h.1,segsPv_segs h.2⟩
 |.dead,_,h=>h.elim
 |.node i y n,F,h=>by
  constructor
  ·by_cases hb:σ.bval i=true
   ·exact segsPv_segs (h.1 hb)
   ·exact segs_no fun hF=>hb hF.1
  ·by_cases hb:σ.bval i=false
   ·exact segsPv_segs (h.2 hb)
   ·exact segs_no fun hF=>hb hF.1
 |.pick i k y n,F,h=>by
  constructor
  ·by_cases hb:σ.ival i=k
   ·exact segsPv_segs (h.1 hb)
   ·exact segs_no fun hF=>hb hF.1
  ·by_cases hb:σ.ival i=k
   ·exact segs_no fun hF=>hF.1 hb
   ·exact segsPv_segs (h.2 hb)
theorem segsPw_segs {σ:Sig} {Q:SEx→Shape→Sig→Prop}: ∀{v:Sw} {F:List Fact},segsPw σ Q v→segsW σ Q v F
 |.run ..,_,h=>segsPv_segs (v:=_) h
 |.dead,_,h=>h.elim
 |.node i y n,F,h=>by
  constructor
  ·by_cases hb:σ.bval i=true
   ·exact segsPw_segs (h.1 hb)
   ·exact segsW_no fun hF=>hb hF.1
  ·by_cases hb:σ.bval i=false
   ·exact segsPw_segs (h.2 hb)
   ·exact segsW_no fun hF=>hb hF.1
 |.pick i k y n,F,h=>by
  constructor
  ·by_cases hb:σ.ival i=k
   ·exact segsPw_segs (h.1 hb)
   ·exact segsW_no fun hF=>hb hF.1
  ·by_cases hb:σ.ival i=k
   ·exact segsW_no fun hF=>hF.1 hb
   ·exact segsPw_segs (h.2 hb)
theorem insOk_kt {X:Ing} {τ:Sig} (hG:Eqs τ X.m X.G) (hi:InsOk τ X.m X.ins) (hkt:okKt X=true) {l:Asg} {q:Nat} {insq:List (Option IntKind)} (h:insAsg (kdX X) l insq 0=true):InsOk (asgS τ l) q insq:=by
 intro i k _ hik
 have hik:insq[i]? =some (some k):=by
  cases hc:insq[i]? with
  |none=>rw [hc] at hik;cases hik
  |some o=>rw [hc] at hik;simp only [Option.getD_some] at hik;rw [hik]
 obtain ⟨a,h1,h2⟩:=insAsg_get h i k hik
 rw [Nat.zero_add] at h1
 obtain ⟨n,h3,h4⟩:=inK_spec (fun i k h=>kdX_spec hG hi hkt i k h) h2
 have:(asgS τ l).ival i=n:=by
  simp only [asgS,h1]
  cases a<;>simp only [inK,Bool.false_eq_true] at h2<;>simp only [valS,h3,iOf]
 rw [this];exact h4
end Go.Ev
namespace Go.Ev
set_option linter.unusedVariables false
set_option linter.unusedSimpArgs false
end Go.Ev
namespace Go.Ev
set_option linter.unusedVariables false
set_option linter.unusedSimpArgs false
inductive Cs where
 |i (k:IntKind)
 |b
 |s
def cellS:Value→AVal
 |.int k n=> .int k n
 |.bool b=> .bool b
 |.string s=> .str s
 |_=> .nilptr
inductive CellR:Cs→Value→AVal→Prop
 |i (k:IntKind) (n:Int):k.wrap n=n→CellR (.i k) (.int k n) (.int k n)
 |b (b:Bool):CellR .b (.bool b) (.bool b)
 |s (s:ByteArray):CellR .s (.string s) (.str s)
theorem CellR.rel {c:Cs} {v:Value} {a:AVal} (h:CellR c v a):(∀g,VRel g a v)∧v.oneCell'=true:=by
 cases h with
 |i k n _=>exact ⟨fun g=> .int k n,rfl⟩
 |b b=>exact ⟨fun g=> .bool b,rfl⟩
 |s s=>exact ⟨fun g=> .str s,rfl⟩
inductive CsOk:List Cs→List Value→Prop
 |nil:CsOk [] []
 |cons (c:Cs) (v:Value) (cl:List Cs) (l:List Value):CellR c v (cellS v)→CsOk cl l→CsOk (c::cl) (v::l)
theorem CsOk.length: ∀{cl:List Cs} {l:List Value},CsOk cl l→l.length=cl.length
 |_,_,.nil=>rfl
 |_,_,.cons _ _ _ _ _ h=>by simp [CsOk.length h]
theorem CsOk.get: ∀{cl:List Cs} {l:List Value},CsOk cl l→ ∀(j:Nat) (c:Cs) (v:Value),cl[j]? =some c→l[j]? =some v→CellR c v (cellS v)
 |_,_,.cons c v cl l h1 h,0,c',v',hc,hv=>by
  simp only [List.getElem?_cons_zero,Option.some.injEq] at hc hv
  subst hc;subst hv;exact h1
 |_,_,.cons c v cl l h1 h,j+1,c',v',hc,hv=>CsOk.get h j c' v' (by simpa using hc) (by simpa using hv)
 |_,_,.nil,j,c',v',hc,hv=>by simp at hc
def leafC (P:Program) (t:TypeId):Option Cs:=
 match P.underlying t with
 |some (.int k)=>some (.i k)
 |some .bool=>some .b
 |some .string=>some .s
 |_=>none
def leafFs (P:Program):List Field→Nat→Option (List Cs)
 |[],_=>some []
 |f::fs,off=>match Nat.beq f.offset off&&Nat.beq (P.cellsOf f.type) 1 with
  |true=>match leafC P f.type,leafFs P fs (off+1) with
   |some c,some r=>some (c::r)
   |_,_=>none
  |false=>none
def flatT (P:Program) (t:TypeId):Option (List Cs):=
 match P.underlying t with
 |some (.struct fs)=>match leafFs P fs.toList 0 with
  |some cl=>match Nat.beq (P.cellsOf t) cl.length with
   |true=>some cl
   |false=>none
  |none=>none
 |_=>none
def ElS (cl:List Cs) (f:Nat→AVal):Prop:= ∀(j:Nat) (z:Cs),cl[j]? =some z→ ∃v,CellR z v (f j)
structure RowVS (W:World) (cl:List Cs) (v:Value) (X:Fz):Prop where
 z:X.z=cl.length
 ok:0<X.len→FzOk X W
 rel: ∀(g:Inj) (i:Nat),g.sig.ext i=some X→VRel g (.row i) v
 els: ∀m,m<X.len→ElS cl (X.val m)
 len:(X.len:Int)≤9223372036854775807
structure RowInS {H:Type} (enc:TypeId×Value→H) (P:Program) (W:World) (t:TypeId) (cl:List Cs) (v:Value) (d:DataW H) (ps:List MemPlace) (X:Fz):Prop where
 z:X.z=cl.length
 ok:0<X.len→FzOk X W
 rel: ∀(g:Inj) (i:Nat),g.sig.ext i=some X→VRel g (.row i) v
 els: ∀m,m<X.len→ElS cl (X.val m)
 len:(X.len:Int)≤9223372036854775807
 again: ∀W':World,RowKit.Below W.heap.size W W'→ ∀sp:Nat→Bool,(∀p∈ps,sp p.block=true)→DataW.Trod enc P W' 0 sp true t v d ps
theorem RowInS.row {H:Type} {enc:TypeId×Value→H} {P:Program} {W:World} {t:TypeId} {cl:List Cs} {v:Value} {d:DataW H} {ps:List MemPlace} {X:Fz} (h:RowInS enc P W t cl v d ps X):RowVS W cl v X:=⟨h.z,h.ok,h.rel,h.els,h.len⟩
section
variable {H : Type} {enc : TypeId × Value → H} {P : Program} {W : World}
theorem leaf_open {w:World} {base:Nat} {sp:Nat→Bool} {held:Bool} {t:TypeId} {c:Cs} {fuel:Nat} {cs:List Value} {x:DataW H×List MemPlace} (h:leafC P t=some c) (hx:DataW.trod enc P w base sp held fuel t cs=some x):
  ∃v,cs=[v]∧CellR c v (cellS v):=by
 unfold leafC at h
 split at h
 ·rename_i k ht
  cases h
  cases fuel with
  |zero=>simp [DataW.trod] at hx
  |succ fuel=>
   unfold DataW.trod at hx
   rw [ht] at hx
   split at hx<;>simp_all
   obtain ⟨⟨rfl,hw⟩,rfl⟩:=hx
   exact .i _ _ (wrap_of_wf hw)
 ·rename_i ht
  cases h
  cases fuel with
  |zero=>simp [DataW.trod] at hx
  |succ fuel=>
   unfold DataW.trod at hx
   rw [ht] at hx
   split at hx<;>simp_all
   exact .b _
 ·rename_i ht
  cases h
  cases fuel with
  |zero=>simp [DataW.trod] at hx
  |succ fuel=>
   unfold DataW.trod at hx
   rw [ht] at hx
   split at hx<;>simp_all
   exact .s _
 ·cases h
theorem leafFs_open {T:TypeId→List Value→Prop} {cs:List Value} (hT: ∀t c us,leafC P t=some c→T t us→ ∃v,us=[v]∧CellR c v (cellS v)):
  ∀{fs:List Field} {off:Nat} {cl:List Cs},leafFs P fs off=some cl→(∀f,f∈fs→T f.type ((cs.drop f.offset).take (P.cellsOf f.type)))→cs.length=off+cl.length→CsOk cl (cs.drop off)
 |[],off,cl,h,_,hl=>by
  simp only [leafFs,Option.some.injEq] at h
  subst h
  rw [List.drop_eq_nil_iff.2 (by simp at hl;omega)]
  exact .nil
 |f::fs,off,cl,h,ht,hl=>by
  simp only [leafFs] at h
  split at h
  ·rename_i ho
   simp only [Bool.and_eq_true] at ho
   have ho1:=Nat.eq_of_beq_eq_true ho.1
   have ho2:=Nat.eq_of_beq_eq_true ho.2
   split at h
   ·rename_i c r h1 h2
    cases h
    simp only [List.length_cons] at hl
    obtain ⟨v,e1,e2⟩:=hT _ _ _ h1 (ht f (by simp))
    rw [ho1,ho2] at e1
    have h3:=leafFs_open hT h2 (fun f' hf=>ht f' (by simp [hf])) (by omega)
    have hlt:off<cs.length:=by omega
    rw [List.drop_eq_getElem_cons hlt] at e1⊢
    simp only [List.take_succ_cons,List.take_zero,List.cons.injEq,and_true] at e1
    rw [e1]
    exact .cons _ _ _ _ e2 h3
   ·cases h
  ·cases h
theorem openS {w:World} {base:Nat} {sp:Nat→Bool} {held:Bool} {t:TypeId} {cl:List Cs} {fuel:Nat} {cs:List Value} {x:DataW H×List MemPlace} (h:flatT P t=some cl) (hx:DataW.trod enc P w base sp held fuel t cs=some x):CsOk cl cs:=by
 unfold flatT at h
 split at h
 ·rename_i fs ht
  split at h
  ·rename_i c1 h1
   split at h
   ·rename_i hb
    cases h
    have hz:=Nat.eq_of_beq_eq_true hb
    obtain ⟨xs,m',rfl,rfl,hl,hxl,hf⟩:=DataW.trod_struct ht hx
    rw [hz] at hl
    have:=leafFs_open (P:=P) (cs:=cs) (T:=fun t us=> ∃y,DataW.trod enc P w base sp held m' t us=some y)
     (fun t c us h2 ⟨y,hy⟩=>leaf_open h2 hy) h1 (fun f hfm=>by
      obtain ⟨i,hi,rfl⟩:=List.getElem_of_mem hfm
      have h2:=hf i _ (by rw [←Array.getElem?_toList];exact List.getElem?_eq_getElem hi)
      refine ⟨_,h2.trans (List.getElem?_eq_getElem (by rw [hxl];simpa using hi))⟩) (by omega)
    simpa using this
   ·cases h
  ·cases h
 ·cases h
theorem leaf_any {w w':World} {base base':Nat} {sp sp':Nat→Bool} {held held':Bool} {t:TypeId} {c:Cs} (h:leafC P t=some c) (fuel:Nat) (cs:List Value):
  DataW.trod enc P w base sp held fuel t cs=DataW.trod enc P w' base' sp' held' fuel t cs:=by
 cases fuel with
 |zero=>rfl
 |succ fuel=>
  unfold leafC at h
  split at h
  all_goals first
   |(rename_i ht;unfold DataW.trod;rw [ht];split<;>simp_all)
   |(rename_i k ht;unfold DataW.trod;rw [ht];split<;>simp_all)
   |cases h
theorem leafFs_mem: ∀{l:List Field} {off:Nat} {c:List Cs},leafFs P l off=some c→ ∀f,f∈l→ ∃c,leafC P f.type=some c
 |[],_,_,_,f,hf=>by cases hf
 |a::r,off,c,h,f,hf=>by
  simp only [leafFs] at h
  split at h
  ·split at h
   ·rename_i c1 r1 h1 h2
    rcases List.mem_cons.1 hf with rfl|hf
    ·exact ⟨_,h1⟩
    ·exact leafFs_mem h2 f hf
   ·cases h
  ·cases h
theorem anyS {w w':World} {base base':Nat} {sp sp':Nat→Bool} {held held':Bool} {t:TypeId} {cl:List Cs} (h:flatT P t=some cl) (fuel:Nat) (cs:List Value):
  DataW.trod enc P w base sp held fuel t cs=DataW.trod enc P w' base' sp' held' fuel t cs:=by
 unfold flatT at h
 split at h
 ·rename_i fs ht
  split at h
  ·rename_i c1 h1
   cases fuel with
   |zero=>rfl
   |succ fuel=>
    unfold DataW.trod
    rw [ht]
    have:=mapM_congr' (l:=fs.toList) (f:=fun f=>DataW.trod enc P w base sp held fuel f.type ((cs.drop f.offset).take (P.cellsOf f.type))) (g:=fun f=>DataW.trod enc P w' base' sp' held' fuel f.type ((cs.drop f.offset).take (P.cellsOf f.type)))
     (fun f hf=>by obtain ⟨c,hc⟩:=leafFs_mem h1 f hf;exact leaf_any hc fuel _)
    simp only [this]
  ·cases h
 ·cases h
theorem open_rowsS {t e:TypeId} {cl:List Cs} {v:Value} {d:DataW H} {ps:List MemPlace} {r:Reach} {b0:Nat} (ht:P.underlying t=some (.slice e)) (hf:flatT P e=some cl) (hz:Nat.beq (P.cellsOf e) cl.length=true) (hpos:Nat.blt 0 cl.length=true)
  (hv:Value.okWide P W r b0 t v) (hd:DataW.Trod enc P W 0 (fun _=>true) true t v d ps): ∃X,RowInS enc P W t cl v d ps X:=by
 have hz:=Nat.eq_of_beq_eq_true hz
 have hpos:0<cl.length:=by simpa using hpos
 obtain ⟨a0,len,cap,rfl⟩:=Go.WideShapes.okWide_slice ht hv
 obtain ⟨fuel,hd⟩:=hd
 have hcs:(Value.slice a0 len cap).cells.toList=[.slice a0 len cap]:=rfl
 rw [hcs] at hd
 rcases DataW.trod_slice ht hd with ⟨h1,h2⟩|⟨a,len',cap',elems,rest,m,rfl,h1,h2,_,hlc,hcm,hel,hall,hsp,_⟩
 ·simp only [List.cons.injEq,Value.slice.injEq,and_true] at h1
  obtain ⟨rfl,rfl,rfl⟩:=h1
  simp only [Prod.mk.injEq] at h2
  obtain ⟨rfl,rfl⟩:=h2
  refine ⟨⟨0,0,cl.length,0,fun _ _=> .nilptr,none⟩,rfl,fun h=>absurd h (Nat.lt_irrefl 0),fun g i h=> .row i _ none 0 h (Nat.le_refl _) (fun h=>absurd h (Nat.lt_irrefl 0)),fun m h=>absurd h (Nat.not_lt_zero m),by simp,?_⟩
  intro W' _ sp _
  refine ⟨1,?_⟩
  rw [hcs]
  unfold DataW.trod
  rw [ht]
  rfl
 ·simp only [List.cons.injEq,Value.slice.injEq,and_true] at h1
  obtain ⟨rfl,rfl,rfl⟩:=h1
  simp only [Prod.mk.injEq] at h2
  obtain ⟨rfl,rfl⟩:=h2
  obtain ⟨hrl,hrest⟩:=hsp rfl
  have hcell: ∀i,i<len→ ∃cs,W.cells? 0 (a.add (i*P.cellsOf e)) (P.cellsOf e)=some cs∧CsOk cl cs:=by
   intro i hi
   have h3:=hall i hi
   rw [List.getElem?_eq_getElem (by omega)] at h3
   obtain ⟨cs,h4,h5⟩:=Option.bind_eq_some_iff.1 h3
   exact ⟨cs,h4,openS hf h5⟩
  have hblk:0<cap→a.block<W.heap.size:=by
   intro hc
   have: ∃y,(W.cells? 0 (a.add 0) (P.cellsOf e)).bind (DataW.trod enc P W 0 (fun _=>true) true m e)=some y:=by
    by_cases hl:0<len
    ·have h3:=hall 0 hl
     rw [Nat.zero_mul,List.getElem?_eq_getElem (by omega)] at h3
     exact ⟨_,h3⟩
    ·have h3:=hrest 0 (by omega)
     rw [List.getElem?_eq_getElem (by omega),show len+0=0 by omega,Nat.zero_mul] at h3
     exact ⟨_,h3⟩
   obtain ⟨y,hy⟩:=this
   obtain ⟨cs,h4,_⟩:=Option.bind_eq_some_iff.1 hy
   obtain ⟨_,_,h5⟩:=World.cells?_some h4
   have h6:=h5 0 (by omega)
   have hlen:=(World.cells?_some h4).2.1
   rw [List.getElem?_eq_getElem (by omega)] at h6
   unfold World.cell? at h6
   split at h6
   ·rename_i C e' fr hheap
    have:=(Array.getElem?_eq_some_iff.1 hheap).1
    simpa [add_block] using this
   ·cases h6
  have hat:0<len→a.spot=none∧ ∃C e' fr,W.heap[a.block]? =some (.cells C e' fr)∧ ∀i cs,i<len→W.cells? 0 (a.add (i*P.cellsOf e)) (P.cellsOf e)=some cs→ ∀j,j<P.cellsOf e→C[a.off+i*P.cellsOf e+j]? =cs[j]?:=by
   intro hl
   obtain ⟨cs,h4,_⟩:=hcell 0 hl
   obtain ⟨_,hlen,h5⟩:=World.cells?_some h4
   have h6:=h5 0 (by omega)
   have hadd:(a.add (0*P.cellsOf e)).add 0=a:=by simp [Addr.add]
   rw [hadd,List.getElem?_eq_getElem (by omega)] at h6
   unfold World.cell? at h6
   split at h6
   ·rename_i C e' fr hheap
    have hsp0:a.spot=none:=by
     cases hs:a.spot with
     |none=>rfl
     |some x=>rw [hs] at h6;simp at h6
    refine ⟨hsp0,C,e',fr,hheap,?_⟩
    intro i cs hi h4 j hj
    obtain ⟨_,_,h5⟩:=World.cells?_some h4
    have h7:=h5 j hj
    rw [←h7]
    rw [add_add']
    unfold World.cell?
    rw [add_block,hheap]
    have hspot:(a.add (i*P.cellsOf e+j)).spot=none:=by unfold Addr.add;split;exact hsp0;rfl
    have hoff:(a.add (i*P.cellsOf e+j)).off=a.off+(i*P.cellsOf e+j):=by unfold Addr.add;split<;>simp_all
    rw [hspot,hoff]
    simp [Nat.add_assoc]
   ·cases h6
  let V:Nat→Nat→AVal:=fun m j=>match W.cells? 0 (a.add (m*P.cellsOf e)) (P.cellsOf e) with
   |some cs=>cellS (cs.getD j .nilFunc)
   |none=> .nilptr
  refine ⟨⟨a.block,a.off,cl.length,len,V,none⟩,rfl,?_,?_,?_,?_,?_⟩
  ·intro hl
   have hl:0<len:=hl
   obtain ⟨_,C,e',fr,hheap,hC⟩:=hat hl
   refine ⟨C,e',fr,hheap,?_,fun o h=>by cases h⟩
   intro m' j hm' hj
   have hm':m'<len:=hm'
   have hj:j<cl.length:=hj
   obtain ⟨cs,h4,h6⟩:=hcell m' hm'
   have h7:=hC m' _ hm' h4 j (by omega)
   have hlen:=h6.length
   have hlt:j<cs.length:=by omega
   rw [List.getElem?_eq_getElem hlt] at h7
   have hgd:cs.getD j .nilFunc=cs[j]:=by simp [List.getD,hlt]
   obtain ⟨q1,q2⟩:=(h6.get j _ _ (List.getElem?_eq_getElem hj) (List.getElem?_eq_getElem hlt)).rel
   refine ⟨cs[j],?_,fun g=> ?_,q2⟩
   ·show C[a.off+m'*cl.length+j]? =_
    rw [←hz];exact h7
   ·show VRel g (V m' j) _
    simp only [V,h4,hgd]
    exact q1 g
  ·intro g i h
   refine .row i _ (some a) cap h hlc (fun hl=> ?_)
   have hl:0<len:=hl
   obtain ⟨hsp0,_⟩:=hat hl
   obtain ⟨b,o,s⟩:=a
   simp only at hsp0
   subst hsp0
   rfl
  ·intro m' hm'
   have hm':m'<len:=hm'
   obtain ⟨cs,h4,h6⟩:=hcell m' hm'
   intro j z hz'
   have hj:j<cl.length:=(List.getElem?_eq_some_iff.1 hz').1
   have hlen:=h6.length
   have hlt:j<cs.length:=by omega
   refine ⟨cs[j],?_⟩
   show CellR z cs[j] (V m' j)
   have hgd:cs.getD j .nilFunc=cs[j]:=by simp [List.getD,hlt]
   simp only [V,h4,hgd]
   exact h6.get j _ _ hz' (List.getElem?_eq_getElem hlt)
  ·have:maxLen=2^63-1:=rfl
   show (len:Int)≤_
   omega
  ·intro W' hB sp hps
   refine ⟨m+1,?_⟩
   rw [hcs]
   by_cases hc:0<cap
   ·have hb:=hB.block a.block (hblk hc)
    have hspb:sp a.block=true:=by
     have hmem:MemPlace.cell a.block a.off∈MemPlace.row a ((elems.length+rest.length)*P.cellsOf e)++(elems++rest).flatMap (·.2):=
      List.mem_append_left _ (MemPlace.mem_row.2 ⟨0,by rw [hel,hrl];exact Nat.mul_pos (by omega) (by omega),by simp⟩)
     exact hps _ hmem
    have one: ∀i,(W'.cells? 0 (a.add (i*P.cellsOf e)) (P.cellsOf e)).bind (DataW.trod enc P W' 0 sp true m e)=(W.cells? 0 (a.add (i*P.cellsOf e)) (P.cellsOf e)).bind (DataW.trod enc P W 0 (fun _=>true) true m e):=by
     intro i
     rw [cells_same (W:=W) (a:=a.add (i*P.cellsOf e)) (by rw [add_block];exact hb)]
     have:DataW.trod enc P W' 0 sp true m e=DataW.trod enc P W 0 (fun _=>true) true m e:=funext fun cs=>anyS hf m cs
     rw [this]
    unfold DataW.trod at hd⊢
    rw [ht] at hd⊢
    simp only [one,hspb,if_true] at hd⊢
    exact hd
   ·have hc0:cap=0:=by omega
    have hl0:len=0:=by omega
    subst hc0;subst hl0
    have e1:elems=[]:=List.eq_nil_of_length_eq_zero hel
    have e2:rest=[]:=List.eq_nil_of_length_eq_zero hrl
    subst e1;subst e2
    unfold DataW.trod
    rw [ht]
    simp [MemPlace.row,hcm]
end
def elSigS (σ:Sig) (q:Nat) (X:Fz):Sig where
 ival:=fun t=>if t<q then σ.ival t else if (σ.ival 0).toNat<X.len then iOf (X.val (σ.ival 0).toNat (t-q)) else 0
 bval:=fun t=>if t<q then σ.bval t else if (σ.ival 0).toNat<X.len then bOf (X.val (σ.ival 0).toNat (t-q)) else false
 sval:=fun t=>if t<q then σ.sval t else if (σ.ival 0).toNat<X.len then sOf (X.val (σ.ival 0).toNat (t-q)) else .empty
 tab:=σ.tab
 ext:=σ.ext
theorem elSigS_agree (σ:Sig) (q:Nat) (X:Fz):Agree q σ (elSigS σ q X):=
 ⟨fun i hi=>⟨by simp [elSigS,hi],by simp [elSigS,hi],by simp [elSigS,hi]⟩,rfl,rfl⟩
def kindS:Cs→Option IntKind
 |.i k=>some k
 |_=>none
def elCellsS:Nat→List Cs→List AVal
 |_,[]=>[]
 |i,.i k::r=> .symi k i::elCellsS (i+1) r
 |i,.b::r=> .symb i::elCellsS (i+1) r
 |i,.s::r=> .syms i::elCellsS (i+1) r
theorem elCellsS_length: ∀(i:Nat) (cl:List Cs),(elCellsS i cl).length=cl.length
 |_,[]=>rfl
 |i,.i k::r=>by simp [elCellsS,elCellsS_length (i+1) r]
 |i,.b::r=>by simp [elCellsS,elCellsS_length (i+1) r]
 |i,.s::r=>by simp [elCellsS,elCellsS_length (i+1) r]
theorem elCellsS_get: ∀(i:Nat) (cl:List Cs) (j:Nat) (c:AVal),(elCellsS i cl)[j]? =some c→ ∃z,cl[j]? =some z∧c=(match z with|.i k=> .symi k (i+j)|.b=> .symb (i+j)|.s=> .syms (i+j))
 |_,[],j,c,h=>by simp [elCellsS] at h
 |i,.i k::r,0,c,h=>by simp [elCellsS] at h;exact ⟨.i k,rfl,h.symm⟩
 |i,.b::r,0,c,h=>by simp [elCellsS] at h;exact ⟨.b,rfl,h.symm⟩
 |i,.s::r,0,c,h=>by simp [elCellsS] at h;exact ⟨.s,rfl,h.symm⟩
 |i,.i k::r,j+1,c,h=>by
  obtain ⟨z,h1,h2⟩:=elCellsS_get (i+1) r j c (by simpa [elCellsS] using h)
  exact ⟨z,by simpa using h1,by rw [h2,show i+1+j=i+(j+1) by omega]⟩
 |i,.b::r,j+1,c,h=>by
  obtain ⟨z,h1,h2⟩:=elCellsS_get (i+1) r j c (by simpa [elCellsS] using h)
  exact ⟨z,by simpa using h1,by rw [h2,show i+1+j=i+(j+1) by omega]⟩
 |i,.s::r,j+1,c,h=>by
  obtain ⟨z,h1,h2⟩:=elCellsS_get (i+1) r j c (by simpa [elCellsS] using h)
  exact ⟨z,by simpa using h1,by rw [h2,show i+1+j=i+(j+1) by omega]⟩
def RowSEl (q:Nat) (E:Nat→Option Fz) (cl:List Cs) (X:Fz) (τ:Sig):Prop:= ∃σ,Agree (q+cl.length) (elSigS σ q X) τ∧RowE E X σ
structure RowElS (cl:List Cs) (X:Fz):Prop where
 z:X.z=cl.length
 els: ∀m,m<X.len→ElS cl (X.val m)
theorem RowSEl.agree {E:Nat→Option Fz} {cl:List Cs} {X:Fz} {q:Nat} {σ τ:Sig} (ag:Agree (q+cl.length) σ τ) (h:RowSEl q E cl X σ):RowSEl q E cl X τ:=by
 obtain ⟨υ,ag0,hd⟩:=h
 exact ⟨υ,ag0.trans' ag,hd⟩
theorem RowSEl.hd {E:Nat→Option Fz} {cl:List Cs} {X:Fz} {q:Nat} (h2:2≤q) {τ:Sig} (h:RowSEl q E cl X τ):RowE E X τ:=by
 obtain ⟨σ,ag,he,h1,h0,h3⟩:=h
 refine ⟨by rw [←ag.ext];exact he,?_,?_,?_⟩
 ·rw [←(ag.val 1 (by omega)).1];simp [elSigS,show 1<q by omega,h1]
 ·rw [←(ag.val 0 (by omega)).1];simp [elSigS,show 0<q by omega,h0]
 ·rw [←(ag.val 0 (by omega)).1];simp [elSigS,show 0<q by omega,h3]
theorem RowSEl.rows {E:Nat→Option Fz} {cl:List Cs} {X:Fz} (hX:RowElS cl X) (hE: ∀Y,E 0=some Y→Y=X) {q:Nat} (h2q:2≤q) {τ:Sig} (h:RowSEl q E cl X τ):RowsOk τ [⟨.symi .i64 1,[(.symi .i64 0,elCellsS q cl)]⟩]:=by
 obtain ⟨σ,ag,he,h1,h0,_⟩:=h
 intro i r Y hr hY
 have hr0:i=0:=by
  cases i with
  |zero=>rfl
  |succ i=>simp at hr
 subst hr0
 rw [←ag.ext] at hY
 have hY:σ.ext 0=some Y:=hY
 rw [he] at hY
 have hY:=hE Y hY
 subst hY
 simp only [List.getElem?_cons_zero,Option.some.injEq] at hr
 subst hr
 have t0:τ.ival 0=σ.ival 0:=by rw [←(ag.val 0 (by omega)).1];simp [elSigS,show 0<q by omega]
 have t1:τ.ival 1=σ.ival 1:=by rw [←(ag.val 1 (by omega)).1];simp [elSigS,show 1<q by omega]
 refine ⟨by show AVal.int .i64 (τ.ival 1)=_;rw [t1,h1],fun p hp m hm hlt=> ?_⟩
 simp only [List.mem_singleton] at hp
 subst hp
 have hm:τ.ival 0=(m:Int):=by simpa [den] using hm
 rw [t0] at hm
 have hmN:(σ.ival 0).toNat=m:=by omega
 refine ⟨by rw [elCellsS_length];exact hX.z.symm,fun j c hc=> ?_⟩
 obtain ⟨z,hz,rfl⟩:=elCellsS_get q cl j c hc
 have hj:j<cl.length:=(List.getElem?_eq_some_iff.1 hz).1
 obtain ⟨u,h3⟩:=hX.els _ hlt j z hz
 have hnq: ¬(q+j<q):=by omega
 generalize hv:Y.val m j=a at h3
 cases h3 with
 |i k n hw=>
  simp only [den]
  rw [←(ag.val (q+j) (by omega)).1]
  simp only [elSigS,hnq,if_false,hmN,hlt,if_true,Nat.add_sub_cancel_left,hv]
  rfl
 |b b=>
  simp only [den]
  rw [←(ag.val (q+j) (by omega)).2.1]
  simp only [elSigS,hnq,if_false,hmN,hlt,if_true,Nat.add_sub_cancel_left,hv]
  rfl
 |s s=>
  simp only [den]
  rw [←(ag.val (q+j) (by omega)).2.2]
  simp only [elSigS,hnq,if_false,hmN,hlt,if_true,Nat.add_sub_cancel_left,hv]
  rfl
theorem RowSEl.at {E:Nat→Option Fz} {cl:List Cs} {X:Fz} {q:Nat} (h2q:2≤q) {τ:Sig} (h:RowSEl q E cl X τ) {m:Nat} (hm:τ.ival 0=m) (hlt:m<X.len) {j:Nat} (hj:j<cl.length):
  τ.ival (q+j)=iOf (X.val m j)∧τ.bval (q+j)=bOf (X.val m j)∧τ.sval (q+j)=sOf (X.val m j):=by
 obtain ⟨σ,ag,he,h1,h0,_⟩:=h
 have t0:τ.ival 0=σ.ival 0:=by rw [←(ag.val 0 (by omega)).1];simp [elSigS,show 0<q by omega]
 have hmN:(σ.ival 0).toNat=m:=by omega
 have hnq: ¬(q+j<q):=by omega
 obtain ⟨v1,v2,v3⟩:=ag.val (q+j) (by omega)
 rw [←v1,←v2,←v3]
 simp only [elSigS,hnq,if_false,hmN,hlt,if_true,Nat.add_sub_cancel_left]
 exact ⟨trivial,trivial,trivial⟩
theorem elSigS_ins {cl:List Cs} {X:Fz} (hX:RowElS cl X) {q:Nat} {insq:List (Option IntKind)} (hq:insq.length=q) {σ:Sig} (hi:InsOk σ q insq):InsOk (elSigS σ q X) (q+cl.length) (insq++cl.map kindS):=by
 intro i k hi' hk
 by_cases hlt:i<q
 ·have hk':insq[i]?.getD none=some k:=by rw [←hk,List.getElem?_append_left (by omega)]
  have:=hi i k hlt hk'
  simpa [elSigS,hlt] using this
 ·have hk':(cl.map kindS)[i-q]?.getD none=some k:=by rw [←hk,List.getElem?_append_right (by omega),hq]
  rw [List.getElem?_map] at hk'
  cases hz:cl[i-q]? with
  |none=>rw [hz] at hk';cases hk'
  |some z=>
   rw [hz] at hk'
   have hk':kindS z=some k:=hk'
   cases z with
   |i k'=>
    have:k'=k:=by simpa [kindS] using hk'
    subst this
    simp only [elSigS,hlt,if_false]
    split
    ·rename_i hx
     obtain ⟨u,h3⟩:=hX.els _ hx _ _ hz
     generalize X.val (σ.ival 0).toNat (i-q)=a at h3
     cases h3 with
     |i _ n hw=>exact hw
    ·cases k'<;>rfl
   |b=>cases hk'
   |s=>cases hk'
theorem Stage.elS {P:Program} {tab:TabF} {n:Nat} {W0:Fra} {Z:Exit→Act→World→Prop} {c:List Code} {S:Shape} {q:Nat} {insq:List (Option IntKind)} {J:Sig→Prop} {cl:List Cs} {X:Fz} {E:Nat→Option Fz} (hX:RowElS cl X)
  (hq:insq.length=q) (hid:idOk S q=true) (hJ: ∀σ τ,Agree q σ τ→J σ→J τ)
  (st:Stage P tab n W0 Z c S (q+cl.length) (insq++cl.map kindS) (fun τ=>RowSEl q E cl X τ∧J τ)):Stage P tab n W0 Z c S q insq (fun σ=>RowE E X σ∧J σ):=by
 intro a w σ hA hi hj ht
 have ag:=elSigS_agree σ q X
 exact st a w (elSigS σ q X) (hA.agree hid ag) (elSigS_ins hX hq hi) ⟨⟨σ,⟨fun _ _=>⟨rfl,rfl,rfl⟩,rfl,rfl⟩,hj.1⟩,hJ _ _ ag hj.2⟩ ht
theorem Stage.rowLoopS {P:Program} {tab:TabF} {n:Nat} {W0:Fra} {Z:Exit→Act→World→Prop} {b:Code} {id:Nat} {c2:List Code} {S:Shape} {q:Nat} {insq:List (Option IntKind)} {J:Sig→Prop} {cl:List Cs} {X:Fz} {E:Nat→Option Fz} (hX:RowElS cl X)
  (hq:insq.length=q) (h2:2≤q) (hid:idOk S q=true) (hJ: ∀σ τ,Agree q σ τ→J σ→J τ)
  (body: ∀k,Stage P tab n W0 (LoopZ P id c2 Z (InvF tab n W0 (fun _:Unit=>S) q insq (fun _ σ=>RowE E X σ∧J σ) (fun σ=>((X.len:Int)-σ.ival 0).toNat)) k) [b] S (q+cl.length) (insq++cl.map kindS) (fun τ=>RowSEl q E cl X τ∧J τ∧((X.len:Int)-τ.ival 0).toNat=k)):
  Stage P tab n W0 Z (.block id (.loop b)::c2) S q insq (fun σ=>RowE E X σ∧J σ):=by
 intro a w σ hA hi hj ht
 show (Code.block id (.loop b)).wpIn (FR none) 0 P _ a w
 refine wpIn_block ?_
 refine loop_at (Inv:=InvF tab n W0 (fun _:Unit=>S) q insq (fun _ σ=>RowE E X σ∧J σ) (fun σ=>((X.len:Int)-σ.ival 0).toNat)) ?_ _ a w ⟨(),σ,hA,hi,hj,ht,rfl⟩
 clear hA hi hj ht a w
 rintro k a w ⟨i,σ,hA,hi,hj,ht,rfl⟩
 have ag:=elSigS_agree σ q X
 have h0:(elSigS σ q X).ival 0=σ.ival 0:=by simp [elSigS,show 0<q by omega]
 have:=body _ a w (elSigS σ q X) (hA.agree hid ag) (elSigS_ins hX hq hi) ⟨⟨σ,⟨fun _ _=>⟨rfl,rfl,rfl⟩,rfl,rfl⟩,hj.1⟩,hJ _ _ ag hj.2,by rw [h0]⟩ ht
 simp only [chainK] at this
 rwa [then_self] at this
theorem At.relist {tab:TabF} {n:Nat} {σ:Sig} {w0:Fra} {a:Act} {w:World} {t1 t2:List (Nat×AVal)} {e:TypeId} (hx: ∀i,1000≤i→σ.ext i=none) (h:At tab ⟨t1,[.cells [.int .i64 0] e]⟩ n σ w0 a w)
  (ht: ∀p,p∈t2→p∈t1∨ ∃i,(i,AVal.slice 0 0 1 1 none)∈t1∧p=(i,.lsl 0 1 true (.int .i64 0) (.int .i64 1))):
  At tab ⟨t2,[.lst (.str ⟨#[0,0,0,0,0,0,0,0]⟩) (.int .i64 1) [some .i64] e]⟩ n σ w0 a w:=by
 obtain ⟨⟨g,rfl,hH,hT,hB,hP⟩,h2,h3,h4⟩:=h
 have hlive: ∀i,Live [Blk.lst (.str ⟨#[0,0,0,0,0,0,0,0]⟩) (.int .i64 1) [some .i64] e] i↔Live [Blk.cells [.int .i64 0] e] i:=by
  intro i
  cases i with
  |zero=>exact ⟨fun _=>⟨_,rfl,by simp⟩,fun _=>⟨_,rfl,by simp⟩⟩
  |succ i=>exact ⟨fun ⟨k,hk,_⟩=>by simp at hk,fun ⟨k,hk,_⟩=>by simp at hk⟩
 obtain ⟨L,hL,C,fr,b1,b2,b3,b4,b5⟩:=hH.blk 0 (.cells [.int .i64 0] e) rfl (by simp)
 have hcell:=b5 0 (.int .i64 0) rfl
 refine ⟨⟨g,rfl,⟨hH.dom,fun i j L M h1 h2 h3 h4 h5=>hH.inj i j L M h1 h2 h3 ((hlive i).1 h4) ((hlive j).1 h5),?_,hH.glob,hH.sig,?_⟩,?_,hB,hP⟩,h2,h3,h4⟩
 ·intro i k hi hk
  cases i with
  |succ i=>simp at hi
  |zero=>
   simp only [List.getElem?_cons_zero,Option.some.injEq] at hi
   subst hi
   refine .inr ⟨L,hL,⟨#[0,0,0,0,0,0,0,0]⟩,1,C,fr,e,rfl,rfl,by decide,b1,b2,⟨fun _=>⟨rfl,⟨b3,.inl rfl⟩,fun i X h0 h=>by rw [hx i h0] at h;cases h⟩,fun i X h0 h=>by rw [hx i h0] at h;cases h⟩,by simpa using b4,?_⟩
   intro m j hm hj
   have hm:m=0:=by omega
   have hj:j=0:=by simpa using hj
   subst hm;subst hj
   obtain ⟨v,v1,v2,v3⟩:=hcell
   refine ⟨v,by simpa using v1,?_,v3⟩
   have:rowAtD [some .i64] ⟨#[0,0,0,0,0,0,0,0]⟩ 0 0=.int .i64 0:=by
    simp [rowAtD,cellD,decK,deB,csz,rsz,IntKind.wrap,IntKind.bits,IntKind.signed]
   rw [this]
   exact v2
 ·refine ⟨fun i X hi hX=> ?_,fun i X hi=> ?_,hH.frz.top⟩
  ·obtain ⟨h1,h2⟩:=hH.frz.row i X hi hX
   exact ⟨h1,fun j L hL hl=>h2 j L hL ((hlive j).1 hl)⟩
  ·obtain ⟨h0,h1,h2⟩:=hH.frz.mp i X hi
   exact ⟨h0,h1,fun j L hL hl=>h2 j L hL ((hlive j).1 hl)⟩
 ·intro p hp
  rcases ht p hp with hp|⟨i,hi,rfl⟩
  ·exact hT p hp
  ·obtain ⟨u,h1,h2⟩:=hT _ hi
   refine ⟨u,h1,?_⟩
   cases h2 with
   |slice _ _ _ _ _ o' cap' L' k1 k2 k3 k4=>
    rw [hL] at k1
    cases k1
    have hc:=k3 rfl
    subst hc
    have ho:o'=0:=by
     rcases k2 with h|h
     ·exact h
     ·exact absurd rfl h.2.2
    subst ho
    refine .lsl 0 1 true (.int .i64 0) (.int .i64 1) 0 1 1 _ rfl rfl ⟨Nat.le_refl _,by decide⟩ (fun _=>⟨rfl,fun h=>absurd h (by decide)⟩) (fun _=>⟨L,hL,rfl,?_⟩)
    simpa using b4
end Go.Ev
