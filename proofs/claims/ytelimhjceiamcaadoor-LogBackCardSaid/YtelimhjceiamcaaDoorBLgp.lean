/-
 Logs, plainly: lists of entries as strings, which may be, their bytes, what bytes are read as.
 No conditions.
-/
import Derived.Test.YtelimhjceiamcaaDoorBWbq
namespace Go.Lgp
open Go.Ev Go.RowKit Go.Wbp
set_option linter.unusedVariables false
set_option linter.unusedSimpArgs false
structure En where
 r:Int
 b:Int
 k:Int
 v:Int
def cl4:List (Option IntKind):=[some .u64,some .u64,some .i64,some .u8]
def cl4d:List (Option IntKind):=[some .u16,some .u16,some .u8,some .u8]
def entA (x:En):List AVal:=[.int .u64 x.r,.int .u64 x.b,.int .i64 x.k,.int .u8 x.v]
def okV (x:En):Prop:=IntKind.u64.wrap x.r=x.r/\IntKind.u64.wrap x.b=x.b/\IntKind.i64.wrap x.k=x.k/\IntKind.u8.wrap x.v=x.v
def encX (x:En):ByteArray:=⟨(rowB cl4 (entA x)).toArray⟩
def encL:List En->ByteArray
 |[]=> .empty
 |x::l=>encX x++encL l
theorem Qy4: ∀(l m:List En),encL (l++m)=encL l++encL m
 |[],m=>by simp [encL]
 |x::l,m=>by simp only [List.cons_append,encL,Qy4 l m,ByteArray.append_assoc]
theorem encL_snoc (l:List En) (x:En):encL (l++[x])=encL l++encX x:=by
 rw [Qy4];simp [encL]
def sg0:Sig:=⟨fun _=>0,fun _=>false,fun _=> .empty,fun _ _=>0,fun _=>none⟩
theorem okX {x:En} (h:okV x):okCs (cx0 (fun _ _=>0)) cl4 (entA x)=true:=by
 obtain ⟨h1,h2,h3,h4⟩:=h
 simp [okCs,okC,cl4,entA,h1,h2,h3,h4]
theorem rsz4:rsz cl4=25:=rfl
theorem Q9f {x:En} (h:okV x):(encX x).data.toList.length=25:=by
 have:=Qmy (σ:=sg0) (okX h)
 exact this
def rowE (C:ByteArray) (j:Nat):En:=⟨iOf (Qo cl4 C j 0),iOf (Qo cl4 C j 1),iOf (Qo cl4 C j 2),iOf (Qo cl4 C j 3)⟩
theorem Qbhf {x:En} (h:okV x) (S:ByteArray):rowE (encX x++S) 0=x:=by
 have key: ∀(j:Nat) (a:AVal),(entA x)[j]? =some a->Qo cl4 (encX x++S) 0 j=den sg0 a:=by
  intro j a hj
  have:=Qkr (ng:=cx0 (fun _ _=>0)) (σ:=sg0) (Qgk rfl) S.data.toList (okX h) j a hj
  unfold Qo
  have e:(encX x++S).data.toList=rowB cl4 (entA x)++S.data.toList:=by simp [ByteArray.data_append,encX]
  rw [e,Nat.zero_mul,List.drop_zero]
  exact this
 have k0:=key 0 _ rfl
 have k1:=key 1 _ rfl
 have k2:=key 2 _ rfl
 have k3:=key 3 _ rfl
 simp only [den] at k0 k1 k2 k3
 simp only [rowE,k0,k1,k2,k3,iOf]
theorem Qbhe {S T:ByteArray} {N:Nat} (h:S.data.toList.length=N*25) (j:Nat):rowE (S++T) j=if j<N then rowE S j else rowE T (j-N):=by
 simp only [rowE,Qh7 (cl:=cl4) (S:=S) (T:=T) (N:=N) (by rw [rsz4];exact h)]
 split<;>rfl
def lstE (C:ByteArray) (N:Nat):List En:=(List.range N).map (rowE C)
theorem Q3d (C:ByteArray) (N:Nat):(lstE C N).length=N:=by simp [lstE]
theorem Qvf: ∀{l:List En},(∀x,x∈l->okV x)->lstE (encL l) l.length=l
 |[],_=>rfl
 |x::l,h=>by
  have hx:=h x (by simp)
  have hl:=Q9f hx
  have ih:=Qvf (l:=l) fun y hy=>h y (by simp [hy])
  simp only [lstE,List.length_cons,List.range_succ_eq_map,List.map_cons,List.map_map,encL]
  rw [Qbhf hx]
  congr 1
  conv=>rhs;rw [<-ih]
  simp only [lstE]
  refine List.map_congr_left fun j _=> ?_
  simp only [Function.comp]
  rw [Qbhe (N:=1) (by rw [hl])]
  simp
theorem Qbe8 {C:ByteArray} {N j:Nat} (h:j<N):(lstE C N)[j]? =some (rowE C j):=by
 simp [lstE,h]
theorem Qbe7 {C:ByteArray} {N j:Nat} (h:j<N):(lstE C N).drop j=rowE C j::(lstE C N).drop (j+1):=by
 have hl:j<(lstE C N).length:=by rw [Q3d];exact h
 rw [List.drop_eq_getElem_cons hl]
 congr 1
 have:=Qbe8 (C:=C) h
 rw [List.getElem?_eq_getElem hl] at this
 exact Option.some.inj this
theorem Qbe9 (C:ByteArray) {N j:Nat} (h:j<=N):(lstE C N).take j=lstE C j:=by
 simp only [lstE,<-List.map_take,List.take_range,Nat.min_eq_left h]
theorem Qvg (C:ByteArray) (j:Nat):lstE C (j+1)=lstE C j++[rowE C j]:=by
 simp [lstE,List.range_succ]
def most:Int:=1099511627776
def behind (a b:En):Bool:=
 if most<b.r\/b.r<b.b\/b.b<a.b then false
 else if b.k=255 then decide (a.r<=b.r)
 else if b.r=a.r then decide (a.k<b.k/\b.b=a.b)
 else decide (a.r<b.r)
def Qcg (a x:En):Bool:=decide (0<=x.k/\x.k<=2)&&behind a x
def Qd7 (last:En):List En->En->Bool
 |[],e=>behind last e
 |x::l,e=>Qcg last x&&Qd7 x l e
structure Lg where
 img:Int
 es:List En
 cyc:Int
 ret:Int
 br:Int
 out:Int
def noE:En:=⟨0,0,-1,0⟩
def Lg.fin (l:Lg):En:=⟨l.ret,l.br,255,0⟩
def right (l:Lg):Bool:=Qd7 noE l.es l.fin&&decide (0<=l.cyc/\l.cyc<=1073741824/\0<=l.out/\l.out<=6)
def Qm6 (c x:Int):Int:=(c*2+c/128+x)%256
def sumL (l:List Int):Int:=l.foldl Qm6 0
theorem Q6f (l:List Int) (x:Int):sumL (l++[x])=Qm6 (sumL l) x:=by simp [sumL]
theorem Qhb (l:List Int):0<=sumL l/\sumL l<256:=by
 rcases List.eq_nil_or_concat l with rfl|⟨m,x,rfl⟩
 ·exact ⟨by decide,by decide⟩
 ·rw [List.concat_eq_append,Q6f]
  unfold Qm6
  omega
def sumS (S:ByteArray):Int:=sumL (ints S)
def entB (last x:En):List Int:=[x.k%256]++pbL (x.r-last.r)++pbL (x.b-last.b)++[x.v%256]
def encS (P:List Int) (last:En):List En->List Int
 |[]=>P
 |x::l=>encS (P++entB last x++[sumL (P++entB last x)]) x l
def head (img:Int):List Int:=[80,76,1,img/16777216%256,img/65536%256,img/256%256,img%256]
def Qg (last:En):List En->En
 |[]=>last
 |x::l=>Qg x l
def zeE:En:=⟨0,0,0,0⟩
def finB (last:En) (l:Lg):List Int:=[255]++pbL l.cyc++pbL (l.ret-last.r)++pbL (l.br-last.b)++[l.out%256]
def encP (l:Lg):List Int:=encS (head l.img) zeE l.es++finB (Qg zeE l.es) l
def encG (l:Lg):List Int:=encP l++[sumL (encP l)]
inductive Rd (α:Type) where
 |bad (at_:Int)
 |ok (a:α)
def Rd.bind {α β:Type} (x:Rd α) (f:α->Rd β):Rd β:=
 match x with
 |.bad p=> .bad p
 |.ok a=>f a
def Qba (S:ByteArray) (a:Int) (p:Int->Bool):Rd Int:=
 if (S.size:Int)<=a then .bad a else if p (bAt S a) then .ok (bAt S a) else .bad a
def numP (S:ByteArray) (a:Int) (p:Int->Bool):Rd (Int×Int):=
 if (numL S a).getD 2 0=0/\p ((numL S a).getD 0 0)=true then .ok ((numL S a).getD 0 0,a+(numL S a).getD 1 0) else .bad a
def Qd1 (S:ByteArray):Rd Int:=
 (Qba S 0 (· ==80)).bind fun _=>(Qba S 1 (· ==76)).bind fun _=>(Qba S 2 (· ==1)).bind fun _=>
 if (S.size:Int)<7 then .bad 3 else .ok (((bAt S 3*256+bAt S 4)*256+bAt S 5)*256+bAt S 6)
def Qd2 (S:ByteArray) (a:Int):Rd Int:=Qba S a fun b=>decide (b<=2)||b==255
def cntP (S:ByteArray) (a:Int) (last:En) (k:Int):Rd (En×Int):=
 (numP S a fun n=>decide (last.r+min n (2*most)<=most/\(0<n\/last.k<k))).bind fun n=>
 (numP S n.2 fun m=>decide (last.b+min m (2*most)<=last.r+min n.1 (2*most)/\(0<n.1\/m=0\/k=255))).bind fun m=>
 .ok (⟨last.r+min n.1 (2*most),last.b+min m.1 (2*most),k,0⟩,m.2)
def Qeh (S:ByteArray) (a:Int):Rd Int:=Qba S a fun b=>b==sumS (S.extract 0 a.toNat)
def entP (S:ByteArray) (a:Int) (last:En) (k:Int):Rd (En×Int):=
 (cntP S a last k).bind fun x=>(Qba S x.2 fun _=>true).bind fun v=>(Qeh S (x.2+1)).bind fun _=> .ok ({x.1 with v:=v},x.2+2)
def finP (S:ByteArray) (img a:Int) (last:En) (es:List En):Rd Lg:=
 (numP S a fun n=>decide (n<=1073741824)).bind fun c=>(cntP S c.2 last 255).bind fun x=>(Qba S x.2 fun b=>decide (b<=6)).bind fun o=>
 (Qeh S (x.2+1)).bind fun _=>if x.2+2<(S.size:Int) then .bad (x.2+2) else .ok ⟨img,es,c.1,x.1.r,x.1.b,o⟩
def parF (S:ByteArray) (img:Int):Nat->Int->En->List En->Rd Lg
 |0,a,_,_=> .bad a
 |f+1,a,last,es=>(Qd2 S a).bind fun k=>if k=255 then finP S img (a+1) last es else
   (entP S (a+1) last k).bind fun x=>parF S img f x.2 x.1 (es++[x.1])
def par (S:ByteArray):Rd Lg:=(Qd1 S).bind fun img=>parF S img (S.size+1) 7 noE []
structure Dr where
 m:Int
 t:Int
 k:Int
 v:Int
def rowD (C:ByteArray) (j:Nat):Dr:=⟨iOf (Qo cl4d C j 0),iOf (Qo cl4d C j 1),iOf (Qo cl4d C j 2),iOf (Qo cl4d C j 3)⟩
theorem Q5h (C:ByteArray) (j:Nat):(0<=(rowD C j).m/\(rowD C j).m<65536)/\(0<=(rowD C j).t/\(rowD C j).t<65536)/\(0<=(rowD C j).k/\(rowD C j).k<256)/\(0<=(rowD C j).v/\(rowD C j).v<256):=by
 have key: ∀i k,cl4d[i]? =some (some k)->k.wrap (iOf (Qo cl4d C j i))=iOf (Qo cl4d C j i):=by
  intro i k hi
  rcases Qiq cl4d i (C.data.toList.drop (j*rsz cl4d)) with ⟨k',n,h1,h2⟩|⟨h1,_⟩
  ·rw [hi] at h1;cases h1
   have h3:=Qsh _ _ _ h2
   have:Qo cl4d C j i=.int k n:=h2
   rw [this]
   exact h3
  ·exact absurd hi (h1 _)
 have k0:=key 0 _ rfl
 have k1:=key 1 _ rfl
 have k2:=key 2 _ rfl
 have k3:=key 3 _ rfl
 rw [Qrs] at k0 k1
 rw [wr_u8] at k2 k3
 simp only [rowD]
 omega
def Qct (a:En) (d:Dr):En:=
 ⟨if d.m=0/\d.k%3<=a.k then a.r+d.m+1 else a.r+d.m,if a.r<(if d.m=0/\d.k%3<=a.k then a.r+d.m+1 else a.r+d.m) then min (if d.m=0/\d.k%3<=a.k then a.r+d.m+1 else a.r+d.m) (a.b+d.t) else a.b,d.k%3,d.v⟩
def draL (C:ByteArray):Nat->List En
 |0=>[]
 |n+1=>draL C n++[Qct (Qg noE (draL C n)) (rowD C n)]
def draG (img:Int) (C:ByteArray) (n:Nat) (m t k:Int):Lg:=
 ⟨img,draL C (min n 60),m*100,(Qg noE (draL C (min n 60))).r+m,min ((Qg noE (draL C (min n 60))).r+m) ((Qg noE (draL C (min n 60))).b+t),k%7⟩
def Rd.isOk {α:Type}:Rd α->Bool
 |.ok _=>true
 |.bad _=>false
def lg0:Lg:=⟨0,[],0,0,0,0⟩
def Rd.val (x:Rd Lg):Lg:=
 match x with
 |.ok a=>a
 |.bad _=>lg0
def Rd.at_ {α:Type}:Rd α->Int
 |.ok _=>0
 |.bad p=>p
noncomputable def lgOf (l:List Int):Lg:=⟨l.getD 0 0,lstE (decB (l.getD 1 0)) (l.getD 2 0).toNat,l.getD 3 0,l.getD 4 0,l.getD 5 0,l.getD 6 0⟩
noncomputable def lgFs (i:Nat) (l:List Int):List Int:=
 if i=0 then Qcz l else if i=1 then Qdu l else if i=2 then numF l
 else if i=3 then [encB (bs (pbL (l.getD 0 0))),((pbL (l.getD 0 0)).length:Int)]
 else if i=6 then [sumS (decB (l.getD 0 0))]
 else if i=7 then [bif right (lgOf l) then 1 else 0]
 else if i=8 then [encB (bs (encG (lgOf l)))]
 else if i=9 then [bif (par (decB (l.getD 0 0))).isOk then 1 else 0,(par (decB (l.getD 0 0))).at_,encB (encL (par (decB (l.getD 0 0))).val.es),((par (decB (l.getD 0 0))).val.es.length:Int),(par (decB (l.getD 0 0))).val.img,
  (par (decB (l.getD 0 0))).val.cyc,(par (decB (l.getD 0 0))).val.ret,(par (decB (l.getD 0 0))).val.br,(par (decB (l.getD 0 0))).val.out,bif (par (decB (l.getD 0 0))).isOk then 0 else 1]
 else if i=10 then [encB (encL (draG 0 (decB (l.getD 0 0)) (l.getD 1 0).toNat 0 0 0).es),((draG 0 (decB (l.getD 0 0)) (l.getD 1 0).toNat 0 0 0).es.length:Int),(draG 0 (decB (l.getD 0 0)) (l.getD 1 0).toNat (l.getD 2 0) (l.getD 3 0) 0).ret,(draG 0 (decB (l.getD 0 0)) (l.getD 1 0).toNat (l.getD 2 0) (l.getD 3 0) 0).br]
 else if i=11 then [encB (encL (lstE (decB (l.getD 0 0)) (l.getD 1 0).toNat))]
 else []
noncomputable def Qa:TabF:=Qfc lgFs
theorem lg_pb (n:Int):decS (Qa 192 [n])=bs (pbL n):=by
 show decS (encB (bs (pbL n)))=_
 exact Qkw _
theorem lg_pl (n:Int):Qa 193 [n]=((pbL n).length:Int):=rfl
theorem Qma (S:ByteArray):Qa 384 [encB S]=sumS S:=by
 show sumS (decB (encB S))=_
 rw [Qet]
theorem Q2z (a b c d e f:Int) (C:ByteArray) (n:Nat):lgOf [a,encB C,(n:Int),c,d,e,f]=⟨a,lstE C n,c,d,e,f⟩:=by
 show (⟨a,lstE (decB (encB C)) (n:Int).toNat,c,d,e,f⟩:Lg)=_
 rw [Qet,Int.toNat_natCast]
theorem Qu1 (a c d e f:Int) (C:ByteArray) (n:Nat):(!(Qa 448 [a,encB C,(n:Int),c,d,e,f]==0))=right ⟨a,lstE C n,c,d,e,f⟩:=by
 have h:Qa 448 [a,encB C,(n:Int),c,d,e,f]=bif right (lgOf [a,encB C,(n:Int),c,d,e,f]) then 1 else 0:=rfl
 rw [h,Q2z a 0 c d e f]
 cases right ⟨a,lstE C n,c,d,e,f⟩<;>rfl
theorem Quz (a c d e f:Int) (C:ByteArray) (n:Nat):decS (Qa 512 [a,encB C,(n:Int),c,d,e,f])=bs (encG ⟨a,lstE C n,c,d,e,f⟩):=by
 have h:Qa 512 [a,encB C,(n:Int),c,d,e,f]=encB (bs (encG (lgOf [a,encB C,(n:Int),c,d,e,f]))):=rfl
 rw [h,Q2z a 0 c d e f,Qkw]
theorem Q23 (C:ByteArray) (n:Nat) (m t:Int):decS (Qa 640 [encB C,(n:Int)])=encL (draL C (min n 60))/\Qa 641 [encB C,(n:Int)]=((draL C (min n 60)).length:Int)/\Qa 642 [encB C,(n:Int),m,t]=(draG 0 C n m t 0).ret/\Qa 643 [encB C,(n:Int),m,t]=(draG 0 C n m t 0).br:=by
 have h1:Qa 640 [encB C,(n:Int)]=encB (encL (draG 0 (decB (encB C)) (n:Int).toNat 0 0 0).es):=rfl
 have h2:Qa 641 [encB C,(n:Int)]=((draG 0 (decB (encB C)) (n:Int).toNat 0 0 0).es.length:Int):=rfl
 have h3:Qa 642 [encB C,(n:Int),m,t]=(draG 0 (decB (encB C)) (n:Int).toNat m t 0).ret:=rfl
 have h4:Qa 643 [encB C,(n:Int),m,t]=(draG 0 (decB (encB C)) (n:Int).toNat m t 0).br:=rfl
 rw [h1,h2,h3,h4,Qet,Int.toNat_natCast,Qkw]
 exact ⟨rfl,rfl,rfl,rfl⟩
theorem Qu0 (C:ByteArray) (n:Nat):decS (Qa 704 [encB C,(n:Int)])=encL (lstE C n):=by
 have h:Qa 704 [encB C,(n:Int)]=encB (encL (lstE (decB (encB C)) (n:Int).toNat)):=rfl
 rw [h,Qet,Int.toNat_natCast,Qkw]
theorem lg_ok (S:ByteArray):(!(Qa 576 [encB S]==0))=(par S).isOk:=by
 have h:Qa 576 [encB S]=bif (par (decB (encB S))).isOk then 1 else 0:=rfl
 rw [h,Qet]
 cases (par S).isOk<;>rfl
theorem Qpz (S:ByteArray):(!(Qa 585 [encB S]==0))= !(par S).isOk:=by
 have h:Qa 585 [encB S]=bif (par (decB (encB S))).isOk then 0 else 1:=rfl
 rw [h,Qet]
 cases (par S).isOk<;>rfl
theorem lg_at (S:ByteArray):Qa 577 [encB S]=(par S).at_:=by
 have h:Qa 577 [encB S]=(par (decB (encB S))).at_:=rfl
 rw [h,Qet]
theorem lg_es (S:ByteArray):decS (Qa 578 [encB S])=encL (par S).val.es:=by
 have h:Qa 578 [encB S]=encB (encL (par (decB (encB S))).val.es):=rfl
 rw [h,Qet,Qkw]
theorem Q24 (S:ByteArray):Qa 579 [encB S]=((par S).val.es.length:Int)/\Qa 580 [encB S]=(par S).val.img/\Qa 581 [encB S]=(par S).val.cyc/\Qa 582 [encB S]=(par S).val.ret/\Qa 583 [encB S]=(par S).val.br/\Qa 584 [encB S]=(par S).val.out:=by
 have h1:Qa 579 [encB S]=((par (decB (encB S))).val.es.length:Int):=rfl
 have h2:Qa 580 [encB S]=(par (decB (encB S))).val.img:=rfl
 have h3:Qa 581 [encB S]=(par (decB (encB S))).val.cyc:=rfl
 have h4:Qa 582 [encB S]=(par (decB (encB S))).val.ret:=rfl
 have h5:Qa 583 [encB S]=(par (decB (encB S))).val.br:=rfl
 have h6:Qa 584 [encB S]=(par (decB (encB S))).val.out:=rfl
 rw [h1,h2,h3,h4,h5,h6,Qet]
 exact ⟨rfl,rfl,rfl,rfl,rfl,rfl⟩
end Go.Lgp
