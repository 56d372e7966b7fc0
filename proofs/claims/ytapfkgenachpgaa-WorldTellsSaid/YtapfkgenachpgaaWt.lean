/-
 Lists of inputs as strings of bytes; what the functions of the world say, as functions of numbers and strings.
 No conditions.
-/
import Derived.Test.YtapfkgenachpgaaEv9
import Derived.Test.YtapfkgenachpgaaEv4
import Derived.Test.YtapfkgenachpgaaWpl
namespace Go.Wt
open Go.Ev Go.RowKit Go.Wpl
set_option linter.unusedVariables false
set_option linter.unusedSimpArgs false
def okV (x:E3):Prop:=IntKind.i64.wrap x.t=x.t∧IntKind.i64.wrap x.k=x.k∧IntKind.u8.wrap x.v=x.v
def encX (x:E3):ByteArray:=⟨(rowB cl3 [.int .i64 x.t,.int .i64 x.k,.int .u8 x.v]).toArray⟩
def encL:List E3→ByteArray
 |[]=> .empty
 |x::l=>encX x++encL l
theorem encL_append: ∀(l m:List E3),encL (l++m)=encL l++encL m
 |[],m=>by simp [encL]
 |x::l,m=>by simp only [List.cons_append,encL,encL_append l m,ByteArray.append_assoc]
theorem encL_snoc (l:List E3) (x:E3):encL (l++[x])=encL l++encX x:=by
 rw [encL_append];simp [encL]
theorem okX {x:E3} (h:okV x):okCs (cx0 (fun _ _=>0)) cl3 [.int .i64 x.t,.int .i64 x.k,.int .u8 x.v]=true:=by
 obtain ⟨h1,h2,h3⟩:=h
 simp [okCs,okC,cl3,h1,h2,h3]
theorem encX_len {x:E3} (h:okV x):(encX x).data.toList.length=17:=by
 have:=rowB_len (σ:=⟨fun _=>0,fun _=>false,fun _=> .empty,fun _ _=>0,fun _=>none⟩) (okX h)
 exact this
theorem encL_len: ∀{l:List E3},(∀x,x∈l→okV x)→(encL l).data.toList.length=l.length*17
 |[],_=>rfl
 |x::l,h=>by
  have e:(encX x++encL l).data.toList=(encX x).data.toList++(encL l).data.toList:=by simp [ByteArray.data_append]
  rw [encL,e,List.length_append,encX_len (h x (by simp)),encL_len fun y hy=>h y (by simp [hy])]
  simp only [List.length_cons];omega
theorem rsz3:rsz cl3=17:=rfl
theorem rowE_encX {x:E3} (h:okV x) (S:ByteArray):rowE (encX x++S) 0=x:=by
 have key: ∀(j:Nat) (a:AVal),([.int .i64 x.t,.int .i64 x.k,.int .u8 x.v]:List AVal)[j]? =some a→rowAtD cl3 (encX x++S) 0 j=den ⟨fun _=>0,fun _=>false,fun _=> .empty,fun _ _=>0,fun _=>none⟩ a:=by
  intro j a hj
  have:=cellD_rowB (ng:=cx0 (fun _ _=>0)) (σ:=⟨fun _=>0,fun _=>false,fun _=> .empty,fun _ _=>0,fun _=>none⟩) (cx0_good rfl) S.data.toList (okX h) j a hj
  unfold rowAtD
  have e:(encX x++S).data.toList=rowB cl3 [.int .i64 x.t,.int .i64 x.k,.int .u8 x.v]++S.data.toList:=by simp [ByteArray.data_append,encX]
  rw [e,Nat.zero_mul,List.drop_zero]
  exact this
 have k0:=key 0 _ rfl
 have k1:=key 1 _ rfl
 have k2:=key 2 _ rfl
 simp only [den] at k0 k1 k2
 simp only [rowE,k0,k1,k2,iOf]
theorem rowE_append {S T:ByteArray} {N:Nat} (h:S.data.toList.length=N*17) (j:Nat):rowE (S++T) j=if j<N then rowE S j else rowE T (j-N):=by
 simp only [rowE,rowAtD_append (cl:=cl3) (S:=S) (T:=T) (N:=N) (by rw [rsz3];exact h)]
 split<;>rfl
def lstE (C:ByteArray) (N:Nat):List E3:=(List.range N).map (rowE C)
theorem lstE_len (C:ByteArray) (N:Nat):(lstE C N).length=N:=by simp [lstE]
theorem lstE_enc: ∀{l:List E3},(∀x,x∈l→okV x)→lstE (encL l) l.length=l
 |[],_=>rfl
 |x::l,h=>by
  have hx:=h x (by simp)
  have hl:=encX_len hx
  have ih:=lstE_enc (l:=l) fun y hy=>h y (by simp [hy])
  simp only [lstE,List.length_cons,List.range_succ_eq_map,List.map_cons,List.map_map,encL]
  rw [rowE_encX hx]
  congr 1
  conv=>rhs;rw [←ih]
  simp only [lstE]
  refine List.map_congr_left fun j _=> ?_
  simp only [Function.comp]
  rw [rowE_append (N:=1) (by rw [hl])]
  simp
def decL (n:Int):List E3:=lstE (decS n) ((decS n).data.toList.length/17)
theorem decL_of {C:ByteArray} {N:Nat} (h:C.data.toList.length=N*17):decL (encB C)=lstE C N:=by
 unfold decL
 rw [decS_enc,h,Nat.mul_div_cancel _ (by decide)]
theorem decL_enc {l:List E3} (h: ∀x,x∈l→okV x):decL (encB (encL l))=l:=by
 rw [decL_of (encL_len h),lstE_enc h]
theorem rowE_ok (C:ByteArray) (j:Nat):okV (rowE C j):=rowE_wrap C j
theorem lstE_ok {C:ByteArray} {N:Nat}: ∀x,x∈lstE C N→okV x:=by
 intro x hx
 simp only [lstE,List.mem_map] at hx
 obtain ⟨j,_,rfl⟩:=hx
 exact rowE_ok C j
theorem lstE_get {C:ByteArray} {N j:Nat} (h:j<N):(lstE C N)[j]? =some (rowE C j):=by
 simp [lstE,h]
theorem uptoE_eq (C:ByteArray) (o:Nat) (c:Int) {len N:Nat} (h:o+len≤N):uptoE (fun j=>rowE C (o+j)) c len=upto (((lstE C N).drop o).take len) c:=by
 simp only [uptoE,upto]
 congr 1
 apply List.ext_getElem?
 intro i
 by_cases hi:i<len
 ·simp [lstE,hi,show i<N-o by omega,show o+i<N by omega]
 ·simp [lstE,hi];omega
def cl3u:List (Option IntKind):=[some .u8,some .u8,some .u8]
structure Dr where
 f:Int
 k:Int
 v:Int
def rowD (C:ByteArray) (j:Nat):Dr:=⟨iOf (rowAtD cl3u C j 0),iOf (rowAtD cl3u C j 1),iOf (rowAtD cl3u C j 2)⟩
def scr1 (s:List E3) (a:Int) (d:Dr):E3:=
 let x:E3:=⟨a+d.f%20,d.k%3,d.v⟩
 match s.getLast? with
 |some y=>if Wpl.ahead y x then x else {x with t:=x.t+1}
 |none=>x
def scrN (C:ByteArray):Nat→List E3×Int
 |0=>([],1)
 |n+1=>let p:=scrN C n
  let x:=scr1 p.1 p.2 (rowD C n)
  (p.1++[x],x.t)
theorem scrN_len (C:ByteArray): ∀n,(scrN C n).1.length=n
 |0=>rfl
 |n+1=>by simp [scrN,scrN_len C n]
theorem rowD_b (C:ByteArray) (j:Nat):(0≤(rowD C j).f∧(rowD C j).f<256)∧(0≤(rowD C j).k∧(rowD C j).k<256)∧(0≤(rowD C j).v∧(rowD C j).v<256):=by
 have key: ∀i,cl3u[i]? =some (some .u8)→0≤iOf (rowAtD cl3u C j i)∧iOf (rowAtD cl3u C j i)<256:=by
  intro i hi
  rcases cellD_like cl3u i (C.data.toList.drop (j*rsz cl3u)) with ⟨k',n,h1,h2⟩|⟨h1,_⟩
  ·rw [hi] at h1;cases h1
   have h3:=cellD_wrap _ _ _ h2
   have:rowAtD cl3u C j i=.int .u8 n:=h2
   rw [this]
   simp only [iOf]
   rw [wr_u8] at h3
   omega
  ·exact absurd hi (h1 _)
 exact ⟨key 0 rfl,key 1 rfl,key 2 rfl⟩
structure ScrOk (s:List E3) (a:Int) (n:Nat):Prop where
 script:Script s
 lo:1≤a
 hi:a≤1+20*n
 last: ∀y,s.getLast? =some y→y.t=a
 val: ∀x,x∈s→0≤x.v∧x.v<256
theorem pw_snoc {s:List E3} {x:E3} (h:s.Pairwise (fun a b=>Wpl.ahead a b=true)) (hx: ∀y,s.getLast? =some y→Wpl.ahead y x=true):(s++[x]).Pairwise (fun a b=>Wpl.ahead a b=true):=by
 rw [List.pairwise_append]
 refine ⟨h,by simp,?_⟩
 intro a ha b hb
 simp only [List.mem_singleton] at hb
 subst hb
 cases hl:s.getLast? with
 |none=>
  rw [List.getLast?_eq_none_iff] at hl
  subst hl;cases ha
 |some y=>
  have hy:=hx y hl
  by_cases e:a=y
  ·subst e;exact hy
  ·obtain ⟨l',rfl⟩: ∃l',s=l'++[y]:=by
    have:=List.getLast?_eq_some_iff.1 hl
    exact this
   rw [List.pairwise_append] at h
   rcases List.mem_append.1 ha with h1|h1
   ·exact ahead_trans (h.2.2 a h1 y (by simp)) hy
   ·simp at h1;exact absurd h1 e
theorem scr1_ok {s:List E3} {a:Int} {n:Nat} (h:ScrOk s a n) (hn:n<100) {d:Dr} (h1:0≤d.f∧d.f<256) (h2:0≤d.k∧d.k<256) (h3:0≤d.v∧d.v<256):ScrOk (s++[scr1 s a d]) (scr1 s a d).t (n+1):=by
 have ht:a≤(scr1 s a d).t∧(scr1 s a d).t≤a+20∧(scr1 s a d).k=d.k%3∧(scr1 s a d).v=d.v:=by
  unfold scr1
  simp only
  have hm:0≤d.f%20∧d.f%20<20:=⟨by omega,by omega⟩
  split
  ·split
   ·refine ⟨?_,?_,rfl,rfl⟩<;>dsimp only<;>omega
   ·refine ⟨?_,?_,rfl,rfl⟩<;>dsimp only<;>omega
  ·refine ⟨?_,?_,rfl,rfl⟩<;>dsimp only<;>omega
 have hlast: ∀y,s.getLast? =some y→Wpl.ahead y (scr1 s a d)=true:=by
  intro y hy
  unfold scr1
  simp only [hy]
  split
  ·assumption
  ·rename_i hf
   rw [ahead_iff] at hf⊢
   have:=h.last y hy
   simp only at hf⊢
   omega
 have lo:=h.lo
 have hi:=h.hi
 refine ⟨⟨fun x hx=> ?_,pw_snoc h.script.2 hlast⟩,by omega,by omega,fun y hy=> ?_,fun x hx=> ?_⟩
 ·rcases List.mem_append.1 hx with h4|h4
  ·exact h.script.1 x h4
  ·simp only [List.mem_singleton] at h4;subst h4
   exact ⟨by omega,by omega,by omega,by omega⟩
 ·simp at hy;rw [←hy]
 ·rcases List.mem_append.1 hx with h4|h4
  ·exact h.val x h4
  ·simp only [List.mem_singleton] at h4;subst h4;omega
theorem scrN_ok (C:ByteArray): ∀n,n≤100→ScrOk (scrN C n).1 (scrN C n).2 n
 |0,_=>⟨⟨fun x hx=>(by cases hx),List.Pairwise.nil⟩,Int.le_refl 1,(show (1:Int)≤1+20*((0:Nat):Int) by decide),fun y hy=>(by cases hy),fun x hx=>(by cases hx)⟩
 |n+1,h=>by
  obtain ⟨b1,b2,b3⟩:=rowD_b C n
  exact scr1_ok (scrN_ok C n (by omega)) (by omega) b1 b2 b3
theorem scr_okV {s:List E3} {a:Int} {n:Nat} (h:ScrOk s a n): ∀x,x∈s→okV x:=by
 intro x hx
 have h1:=h.script.1 x hx
 have h2:=h.val x hx
 obtain ⟨a1,a2,a3,a4⟩:=h1
 refine ⟨?_,?_,?_⟩
 ·rw [wr_i64];omega
 ·rw [wr_i64];omega
 ·rw [wr_u8];omega
def script (n:Int) (C:ByteArray):List E3:=(scrN C (min n.toNat 100)).1
def b01 (b:Bool):Int:=if b then 1 else 0
def piece (l:List Int):List E3:=((decL (l.getD 0 0)).drop (l.getD 1 0).toNat).take (l.getD 2 0).toNat
def nxL (l:List Int):Lv:=(upto (piece l) (l.getD 3 0)).foldl Lv.take ⟨l.getD 4 0,l.getD 5 0,l.getD 6 0,l.getD 7 0⟩
def setS (S:ByteArray) (l:List E3) (x:E3):ByteArray:=
 if (l.any fun a=>decide (a.t=x.t∧a.k=x.k))=true then ⟨(updR cl3 S.data.toList (l.filter fun a=>Wpl.ahead a x).length [.int .i64 x.t,.int .i64 x.k,.int .u8 x.v]).toArray⟩ else encL (set l x)
def wTab:TabF:=fun i l=>
 if i=200 then (check (decL (l.getD 0 0))).1 else if i=201 then (check (decL (l.getD 0 0))).2
 else if i=202 then b01 (decide ((check (decL (l.getD 0 0))).2=0∧(decL (l.getD 0 0)).length≤1000000))
 else if i=207 then b01 (decide ((decL (l.getD 0 0)).length≤1000000))
 else if i=208 then b01 (decide ((check (decL (l.getD 0 0))).2≠0∧(decL (l.getD 0 0)).length≤1000000))
 else if i=209 then b01 (decide (¬okIn ⟨l.getD 0 0,l.getD 1 0,l.getD 2 0⟩))
 else if i=257 then encB (encL (set (decL (l.getD 0 0)) ⟨l.getD 1 0,l.getD 2 0,l.getD 3 0⟩))
 else if i=203 then b01 (decide ((check (decL (l.getD 0 0))).2=0∧0≤l.getD 1 0∧0≤l.getD 2 0∧l.getD 1 0+l.getD 2 0=(decL (l.getD 0 0)).length))
 else if i=204 then b01 (decide (0≤l.getD 1 0∧l.getD 1 0≤(decL (l.getD 0 0)).length∧(decL (l.getD 0 0)).length≤1000000))
 else if i=205 then b01 (decide (okIn ⟨l.getD 0 0,l.getD 1 0,l.getD 2 0⟩))
 else if i=206 then b01 (decide (decL (l.getD 0 0)=decL (l.getD 1 0)))
 else if i=250 then (((decL (l.getD 0 0)).filter fun a=>Wpl.ahead a ⟨l.getD 1 0,l.getD 2 0,l.getD 3 0⟩).length:Int)
 else if i=251 then b01 ((decL (l.getD 0 0)).any fun a=>decide (a.t=l.getD 1 0∧a.k=l.getD 2 0))
 else if i=252 then encB (setS (decS (l.getD 0 0)) (decL (l.getD 0 0)) ⟨l.getD 1 0,l.getD 2 0,l.getD 3 0⟩) else if i=253 then ((set (decL (l.getD 0 0)) ⟨l.getD 1 0,l.getD 2 0,l.getD 3 0⟩).length:Int)
 else if i=255 then (check [⟨l.getD 0 0,l.getD 1 0,l.getD 2 0⟩]).1 else if i=256 then (check [⟨l.getD 0 0,l.getD 1 0,l.getD 2 0⟩]).2
 else if i=254 then encB (encL ((decL (l.getD 0 0)).take (l.getD 1 0).toNat++⟨l.getD 2 0,l.getD 3 0,l.getD 4 0⟩::(decL (l.getD 0 0)).drop (l.getD 1 0).toNat))
 else if i=210 then (at_ (decL (l.getD 0 0)) (l.getD 1 0)).pins else if i=211 then (at_ (decL (l.getD 0 0)) (l.getD 1 0)).mask
 else if i=212 then b01 (at_ (decL (l.getD 0 0)) (l.getD 1 0)).isb else if i=213 then (at_ (decL (l.getD 0 0)) (l.getD 1 0)).byte
 else if i=220 then encB (encL (upto (piece l) (l.getD 3 0))) else if i=221 then ((upto (piece l) (l.getD 3 0)).length:Int)
 else if i=230 then encB (encL (script (l.getD 0 0) (decS (l.getD 1 0)))) else if i=231 then ((script (l.getD 0 0) (decS (l.getD 1 0))).length:Int)
 else if i=240 then (nxL l).v0 else if i=241 then (nxL l).v1 else if i=242 then (nxL l).v2 else if i=243 then (nxL l).came
 else if i=244 then ((upto (piece l) (l.getD 3 0)).length:Int)
 else 0
end Go.Wt
