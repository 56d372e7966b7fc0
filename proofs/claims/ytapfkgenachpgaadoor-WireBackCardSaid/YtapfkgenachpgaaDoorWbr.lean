/-
 The bytes of a row of things, and where each one stands.
 No conditions.
-/
import Derived.Test.YtapfkgenachpgaaDoorWbq
import Derived.Test.YtapfkgenachpgaaDoorEv9
namespace Go.Wbp
open Go.Ev Go.RowKit
set_option linter.unusedVariables false
set_option linter.unusedSimpArgs false
def clT:List Cs:=[.i .u8,.i .u64,.s]
def tL (Y:Fz) (m:Nat):List Int:=thL (iOf (Y.val m 0)) (iOf (Y.val m 1)) (sOf (Y.val m 2))
def catL (Y:Fz):Nat→List Int
 |0=>[]
 |i+1=>catL Y i++tL Y i
theorem catL_in (Y:Fz): ∀i,∀x∈catL Y i,0≤x∧x<256
 |0=>fun x hx=>by cases hx
 |i+1=>fun x hx=>by
  rcases List.mem_append.1 hx with h|h
  ·exact catL_in Y i x h
  ·exact thL_in _ _ _ x h
theorem catL_len (Y:Fz): ∀i,(catL Y i).length≤107*i
 |0=>Nat.le_refl _
 |i+1=>by
  have h1:=catL_len Y i
  have h2:=thL_len (iOf (Y.val i 0)) (iOf (Y.val i 1)) (sOf (Y.val i 2))
  show (catL Y i++tL Y i).length≤_
  rw [List.length_append]
  unfold tL
  omega
theorem catL_succ (Y:Fz) (i:Nat):(catL Y (i+1)).length=(catL Y i).length+(tL Y i).length:=List.length_append
theorem catL_split (Y:Fz) {i:Nat}: ∀{n:Nat},i<n→ ∃q,catL Y n=catL Y i++(tL Y i++q)∧ ∀x∈q,0≤x∧x<256
 |0,h=>absurd h (Nat.not_lt_zero i)
 |n+1,h=>by
  by_cases e:i=n
  ·subst e
   exact ⟨[],by simp [catL],fun x hx=>by cases hx⟩
  ·obtain ⟨q,h1,h2⟩:=catL_split Y (i:=i) (n:=n) (by omega)
   refine ⟨q++tL Y n,by simp [catL,h1],fun x hx=> ?_⟩
   rcases List.mem_append.1 hx with h|h
   ·exact h2 x h
   ·exact thL_in _ _ _ x h
theorem catL_has (Y:Fz) {i n:Nat} (h:i<n):Has (bs (catL Y n)) (catL Y i).length (tL Y i):=by
 obtain ⟨q,h1,h2⟩:=catL_split Y h
 rw [h1]
 exact has_bs (thL_in _ _ _) (catL_in Y i) h2
theorem bAt_cut {S:ByteArray} {n:Nat} (hn:n≤S.size) {j:Int} (h0:0≤j) (hj:j<n):bAt (S.extract 0 n) j=bAt S j:=by
 have:=bAt_sub (s:=S) (a:=0) (b:=n) (i:=j) (by omega) (by omega) (by omega) h0 (by omega)
 simpa using this
theorem cut_size {S:ByteArray} {n:Nat} (hn:n≤S.size):(S.extract 0 n).size=n:=by rw [ByteArray.size_extract];omega
theorem has_cut {S:ByteArray} {n:Nat} {a:Int} {l:List Int} (hn:n≤S.size) (h:Has S a l) (hl:a+l.length≤n):Has (S.extract 0 n) a l:=by
 refine ⟨h.1,by rw [cut_size hn];exact hl,fun j hj=> ?_⟩
 rw [bAt_cut hn (by have:=h.1;omega) (by omega)]
 exact h.2.2 j hj
theorem cut_cut {S:ByteArray} {n:Nat} {a:Int} {l:List Int} (hn:n≤S.size) (h:Has S a l) (ha:a≤n) (hl:(n:Int)<a+l.length):Cut (S.extract 0 n) a l:=by
 refine ⟨h.1,by rw [cut_size hn];exact ha,by rw [cut_size hn];exact hl,fun j hj=> ?_⟩
 rw [cut_size hn] at hj
 rw [bAt_cut hn (by have:=h.1;omega) hj]
 exact h.2.2 j (by omega)
def posR (n:Nat):ByteArray:=⟨(rowB [some .i64] [.int .i64 (n:Int)]).toArray⟩
def posB (Y:Fz):Nat→ByteArray
 |0=>⟨#[0,0,0,0,0,0,0,0]⟩
 |i+1=>posB Y i++posR (catL Y (i+1)).length
theorem posR_size (n:Nat):(posR n).data.toList.length=8:=by
 simp [posR,rowB,encK,csz,beB]
theorem posB_size (Y:Fz): ∀i,(posB Y i).data.toList.length=(i+1)*8
 |0=>rfl
 |i+1=>by
  show ((posB Y i++posR _).data.toList).length=_
  rw [ByteArray.data_append,Array.toList_append,List.length_append,posB_size Y i,posR_size]
  omega
theorem posR_at {n:Nat} (hn:n<9223372036854775808):rowAtD [some .i64] (posR n) 0 0=.int .i64 (n:Int):=by
 have h64:(2^(8*8):Nat)=18446744073709551616:=by decide
 have e:rowAtD [some .i64] (posR n) 0 0=decK (some .i64) (beB 8 ((n:Int)%(2^(8*8):Nat)).toNat):=by
  have hl:(posR n).data.toList=beB 8 ((n:Int)%(2^(8*8):Nat)).toNat:=by simp [posR,rowB,encK,csz]
  simp only [rowAtD,cellD,Nat.zero_mul,List.drop_zero,hl]
  rw [List.take_of_length_le (by rw [beB_len];decide)]
 rw [e,h64]
 simp only [decK]
 have h2:(256:Nat)^8=18446744073709551616:=by decide
 rw [deB_beB _ _ (by rw [h2];omega),wr_i64]
 exact congrArg (AVal.int .i64) (by omega)
theorem posB_at (Y:Fz) {m:Nat}: ∀{i:Nat},(∀j,j≤i→(catL Y j).length<9223372036854775808)→m≤i→rowAtD [some .i64] (posB Y i) m 0=.int .i64 ((catL Y m).length:Int)
 |0,_,h=>by
  obtain rfl:m=0:=by omega
  show rowAtD [some .i64] ⟨#[0,0,0,0,0,0,0,0]⟩ 0 0=_
  simp [rowAtD,cellD,decK,deB,csz,rsz,IntKind.wrap,IntKind.bits,IntKind.signed,catL]
 |i+1,hY,h=>by
  show rowAtD [some .i64] (posB Y i++posR _) m 0=_
  rw [rowAtD_append (N:=i+1) (by rw [posB_size];rfl)]
  split
  ·exact posB_at Y (fun j hj=>hY j (by omega)) (by omega)
  ·have:m=i+1:=by omega
   subst this
   rw [Nat.sub_self,posR_at (hY _ (Nat.le_refl _))]
theorem EqsL_of {σ:Sig} {l:Asg}: ∀{r:List (Nat×AVal)},(∀p,p∈r→ ∀y,findAs l p.1=some y→den σ p.2=den σ y)→EqsL σ l r
 |[],_=>trivial
 |p::r,h=>by
  unfold EqsL
  split
  ·rename_i y hy
   split
   ·exact EqsL_of fun q hq=>h q (List.mem_cons_of_mem _ hq)
   ·exact ⟨h p List.mem_cons_self y hy,EqsL_of fun q hq=>h q (List.mem_cons_of_mem _ hq)⟩
  ·exact EqsL_of fun q hq=>h q (List.mem_cons_of_mem _ hq)
theorem eqCellP {σ:Sig} {i a:Nat} {m:Nat} {b:AVal} (h:evalS σ (.sop (.cell [some .i64] 0) [.syms a,b])=some (den σ (.symi .i64 i))) (hb:den σ b=.int .i64 (m:Int)):rowAtD [some .i64] (σ.sval a) m 0=.int .i64 (σ.ival i):=by
 simp only [evalS,List.map,hb] at h
 simp only [den,sopA,Int.toNat_natCast,Option.some.injEq] at h
 exact h
end Go.Wbp
