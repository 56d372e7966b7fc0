/-
 The iterator over a list of inputs (world.upto): its contract.
 No conditions.
-/
import Derived.Test.YtapfkgenachpgaaEv9
import Derived.Test.YtapfkgenachpgaaChecked
import Derived.RangeFuncBox
import Derived.RangeFuncLeaves
import Derived.RangeFuncFrom
import Derived.WalkKit
import Derived.OwnWalkIn
import Derived.TacticsInMore
import Derived.LoopNIn
import Derived.LoopIn
namespace Go.Proofs.Ytapfkgenachpgaa.up
open Go.RowKit Go.Ev
attribute [local go_sem] Oper.semAt_some
set_option maxRecDepth 100000 in
set_option maxHeartbeats 2000000 in
theorem upto1_some (F:Fence) (hf:F.fn 94) (hro:F.round=none) (n:Nat) (hn:1≤n) (l Bs ds Bc dc b off len cap:Nat) (c:Int) (xs:Nat→E3) (J:List E3→World→Prop) (W:World) (hreach:len≤9223372036854775807)
  (hJ:AbidesFrom W.heap.size J)
  (hF: ∀pre W',J pre W'→W.heap.size≤W'.heap.size∧W'.cell? ⟨Bc,dc,none⟩=some (.int .i64 c)∧
   ∀j,j<len→W'.cell? ⟨b,off+j*3,none⟩=some (.int .i64 (xs j).t)∧W'.cell? ⟨b,off+j*3+1,none⟩=some (.int .i64 (xs j).k)∧W'.cell? ⟨b,off+j*3+2,none⟩=some (.int .u8 (xs j).v))
  (hY: ∀k W1,k<len→(xs k).t≤c→J (uptoE xs c k) W1→YieldAt F (n-1) Try.prog l #[(xs k).enc] W1 fun e W'=>e=.returned (.bool true)∧J (uptoE xs c k++[xs k]) W')
  (hBs:W.cell? ⟨Bs,ds,none⟩=some (.slice (some ⟨b,off,none⟩) len cap)) (h0:J [] W):
  CallsIn F n Try.prog 94 #[.func (.yield l) #[] #[],.pointer (some ⟨Bs,ds,none⟩),.pointer (some ⟨Bc,dc,none⟩)] W fun e W'=>(∃v,e=.returned v)∧J (uptoE xs c len) W':=by
 refine callsIn_of_wp Try.func94 rfl hf ?_ hro
 simp only [Try.ntmps94,List.size_toArray,List.length_cons,List.length_nil,Nat.reduceAdd,Nat.reduceSub,Array.replicate_succ,Array.replicate_zero,List.push_toArray,List.append_toArray,List.nil_append,List.cons_append]
 gi_wp2
 gi_loopw [8] (fun i wr=> ∃k:Nat,k≤len∧i=.int .i64 k∧J (uptoE xs c k) wr)
  (fun i _=>len-(intOf i).toNat)
 case atStart=>exact ⟨0,Nat.zero_le _,rfl,h0⟩
 case round=>
  obtain ⟨k,hk,rfl,hJs⟩:=hrel
  obtain ⟨e3,hcC,hcl⟩:=hF _ _ hJs
  by_cases hlt:k<len
  ·obtain ⟨y0,y1,y2⟩:=hcl k hlt
   clear hcl
   have hJ2:J (uptoE xs c k) (wr.alloc (.cells #[.int .i64 (xs k).t,.int .i64 (xs k).k,.int .u8 (xs k).v] 64)):=hJ _ wr _ none hJs (World.grownBy_alloc wr _ none) (fun r e=>by cases e)
   have hcC2:=(hF _ _ hJ2).2.1
   by_cases hle:(xs k).t≤c
   ·obtain ⟨fn,tmps,assign,body,hy,hR⟩:=hY k _ hlt hle hJ2
    simp only [E3.enc] at hy
    gi_wp2
    refine hR.mono ?_
    rintro e W3 ⟨rfl,hJ3⟩
    gi_wp2
    go_roundw
    case rel=>exact ⟨k+1,by omega,by simp,by rw [uptoE_succ,if_pos hle];exact hJ3⟩
    case measure=>simp [intOf];omega
   ·gi_wp2
    refine ⟨fun f h=>(by cases h),?_⟩
    gi_wp2
    go_roundw
    case rel=>exact ⟨k+1,by omega,by simp,by rw [uptoE_succ,if_neg (by omega)];exact hJ2⟩
    case measure=>simp [intOf];omega
  ·obtain rfl:k=len:=by omega
   clear hcl
   gi_wp2
   go_end0
   exact ⟨⟨_,rfl⟩,hJs⟩
set_option maxRecDepth 100000 in
set_option maxHeartbeats 2000000 in
theorem upto1_none (F:Fence) (hf:F.fn 94) (hro:F.round=none) (n:Nat) (l Bs ds Bc dc cap:Nat) (ao:Option Addr) (J:World→Prop) (W:World)
  (hBs:W.cell? ⟨Bs,ds,none⟩=some (.slice ao 0 cap)) (h0:J W):
  CallsIn F n Try.prog 94 #[.func (.yield l) #[] #[],.pointer (some ⟨Bs,ds,none⟩),.pointer (some ⟨Bc,dc,none⟩)] W fun e W'=>(∃v,e=.returned v)∧J W':=by
 refine callsIn_of_wp Try.func94 rfl hf ?_ hro
 simp only [Try.ntmps94,List.size_toArray,List.length_cons,List.length_nil,Nat.reduceAdd,Nat.reduceSub,Array.replicate_succ,Array.replicate_zero,List.push_toArray,List.append_toArray,List.nil_append,List.cons_append]
 gi_wp2
 gi_loopw [8] (fun i wr=>i=.int .i64 0∧J wr) (fun _ _=>0)
 case atStart=>exact ⟨rfl,h0⟩
 case round=>
  obtain ⟨rfl,hJs⟩:=hrel
  gi_wp2
  go_end0
  exact ⟨⟨_,rfl⟩,hJs⟩
theorem up_ok:UpOk Try.prog 94:=by
 intro l Bs ds Bc dc b off len cap ao c xs J W hr ha hJ hF hY hBs h0
 by_cases hl:len=0
 ·subst hl
  exact calls_FR (r:=none) (n:=1) (upto1_none (FR none) trivial rfl 1 l Bs ds Bc dc cap ao (J []) W hBs h0)
 ·have e:=ha (by omega)
  subst e
  exact calls_FR (r:=none) (n:=1) (upto1_some (FR none) trivial rfl 1 (Nat.le_refl _) l Bs ds Bc dc b off len cap c xs J W hr hJ hF hY hBs h0)
end Go.Proofs.Ytapfkgenachpgaa.up
