/-
 slices.Clone of what is empty.
 No conditions.
-/
import Derived.Test.YtapfkgenachpgaaEv9
import Derived.Test.YtapfkgenachpgaaChecked
import Derived.WalkKit
import Derived.WalkSpells
import Derived.WalkLawsBesides
namespace Go.Proofs.Ytapfkgenachpgaa.wcl
open Go.RowKit Go.Ev
theorem under61:Try.prog.underlying 61=some (.slice 64):=by kernel_rfl
theorem info64':(Try.prog.info? 64).map (fun i=>i.size)=some 3:=by kernel_rfl
theorem info64: ∃i,Try.prog.info? 64=some i∧i.size=3:=by
 have h:=info64'
 cases hi:Try.prog.info? 64 with
 |none=>rw [hi] at h;cases h
 |some i=>rw [hi] at h;exact ⟨i,rfl,Option.some.inj h⟩
set_option maxRecDepth 100000 in
theorem clone_nil (c:Nat) (w:World):Calls Try.prog 51 #[.slice none 0 c] w fun e w'=>e=.returned (.slice none 0 0)∧w'=w:=by
 have heq: ∀w,(binOp .eql 61 (.slice none 0 c) (.slice none 0 0)).run Try.prog w=.ok (.bool true) w:=fun w=>Lib.run_eql_slice_nil w 61 64 none 0 c 0 0 under61
 go_enter Try.func51,Try.ntmps51
 go_wp2
 go_ret
 exact ⟨rfl,rfl⟩
theorem app0 (c:Nat) (w:World) (a b:Addr):(Builtin.append_ #[61,61] 61 #[.slice (some a) 0 0,.slice (some b) 0 c]).run Try.prog w=.ok (.slice (some a) 0 0) w:=by
 obtain ⟨ie,hie,hs⟩:=info64
 have hf:(Builtin.firstCells ie.size 0 (.slice (some b) 0 c)).run Try.prog w=.ok #[] w:=firstCells_zero w _ _ _ _
 have:=run_append_room' (P:=Try.prog) (w:=w) 61 61 61 64 (.slice 64) ie under61 under61 rfl hie a 0 0 0 (.slice (some b) 0 c) [] rfl (by exact hf) (Nat.le_refl _)
 rw [this];simp [storeCells]
set_option maxRecDepth 100000 in
set_option maxHeartbeats 800000 in
theorem clone_none (a:Addr) (c:Nat) (w:World):Calls Try.prog 51 #[.slice (some a) 0 c] w fun e w'=> ∃a',e=.returned (.slice a' 0 0)∧Below w.heap.size w w':=by
 have heq: ∀w a,(binOp .eql 61 (.slice (some a) 0 c) (.slice none 0 0)).run Try.prog w=.ok (.bool false) w:=fun w a=>Lib.run_eql_slice_nil w 61 64 (some a) 0 c 0 0 under61
 have happ:=app0 c
 go_enter Try.func51,Try.ntmps51
 go_wp2
 go_ret
 exact ⟨_,rfl,(Below.refl _ _).alloc (Nat.le_refl _) _⟩
end Go.Proofs.Ytapfkgenachpgaa.wcl
