/-
  No cell of these rows narrows 'for every input' (looked for: loops, veiled, ifaces, maps, wideKeys, modest, calm, conditions, laid).
  DERIVED. THE GIVEN ROWS OF THIS SEAT. 12 by the template 'for every input the law returns true; each argument reads behind the call as it read before'; 0 by the template 'total and deterministic' (their statements: YtgifnmiggloclaaTotals.lean).
  GIVEN WITH THE SEED: the statements are not yours to turn. If you find one false, say at which input.
  Laid BY PROGRAM, IN A SANDBOX (cutbox-rows.mjs): the forced cells as the released guide's own fill.sh prints them over the translation 357fc354d8f2d326… (all of the seat's roots in one cut). By AI agents, Wed Nov 11 2026. No macro, syntax, notation, axiom, sorry.
-/
import Derived.Test.YtgifnmiggloclaaChecked
import GoSem.Claim
import GoSem.ClaimJoined
import GoSem.ClaimMapViews
import Derived.JoinedTies
import Derived.KernelRfl
namespace Go.Proofs.Ytgifnmiggloclaa
/- THE CELL 'sum', in the pinned program and in every row, IS THE sha256 OF THE DUMP (.gsa) THAT YtgifnmiggloclaaProg.lean LOADS. Nothing in Lean hashes anything: it is a label: what it is worth is what the hold of that sum in a sandbox is worth. -/
noncomputable def Try.pinned : Pinned := { name := "ytgifnmiggloclaa", sum := "357fc354d8f2d3269764e639b612f69cc3302d4d7dbd62a7f939520c91032754", checked := Try.checked }
namespace Rows
def none {H : Type} : Left H := { results := [], args := [] }

/-- 'ploverlaw10.FifoTells': WHATEVER THE INPUT: true; the input reads as it did. -/
def fifoTellsSpec : ChangeSpec := { name := "fifoTells", fn := fun _ => fun
  | [d1, d2, d3] => { results := [.lit (.bool true)], args := [d1, d2, d3] }
  | _ => none }
def fifoTellsRow : OpenClaim := { program := "ytgifnmiggloclaa", sum := "357fc354d8f2d3269764e639b612f69cc3302d4d7dbd62a7f939520c91032754", func := "plover/ploverlaw10.FifoTells", spec := "fifoTells", apart := false }
def FifoTellsSaid : Prop := fifoTellsRow.holds Try.pinned (OpenSpec.ofChange fifoTellsSpec)

/-- ITS FALSE NEIGHBOUR: 'it returns false'. Refute it at one input. -/
def fifoTellsWrong : ChangeSpec := { name := "fifoTells", fn := fun _ => fun
  | [d1, d2, d3] => { results := [.lit (.bool false)], args := [d1, d2, d3] }
  | _ => none }
def FifoTellsWrongFalsely : Prop := fifoTellsRow.holds Try.pinned (OpenSpec.ofChange fifoTellsWrong)

/-- 'ploverlaw10.FifoOrder': WHATEVER THE INPUT: true; the input reads as it did. -/
def fifoOrderSpec : ChangeSpec := { name := "fifoOrder", fn := fun _ => fun
  | [d] => { results := [.lit (.bool true)], args := [d] }
  | _ => none }
def fifoOrderRow : OpenClaim := { program := "ytgifnmiggloclaa", sum := "357fc354d8f2d3269764e639b612f69cc3302d4d7dbd62a7f939520c91032754", func := "plover/ploverlaw10.FifoOrder", spec := "fifoOrder", apart := false }
def FifoOrderSaid : Prop := fifoOrderRow.holds Try.pinned (OpenSpec.ofChange fifoOrderSpec)

/-- ITS FALSE NEIGHBOUR: 'it returns false'. Refute it at one input. -/
def fifoOrderWrong : ChangeSpec := { name := "fifoOrder", fn := fun _ => fun
  | [d] => { results := [.lit (.bool false)], args := [d] }
  | _ => none }
def FifoOrderWrongFalsely : Prop := fifoOrderRow.holds Try.pinned (OpenSpec.ofChange fifoOrderWrong)

/-- 'ploverlaw10.FifoKnown': WHATEVER THE INPUT: true; the input reads as it did. -/
def fifoKnownSpec : ChangeSpec := { name := "fifoKnown", fn := fun _ => fun
  | [] => { results := [.lit (.bool true)], args := [] }
  | _ => none }
def fifoKnownRow : OpenClaim := { program := "ytgifnmiggloclaa", sum := "357fc354d8f2d3269764e639b612f69cc3302d4d7dbd62a7f939520c91032754", func := "plover/ploverlaw10.FifoKnown", spec := "fifoKnown", apart := false }
def FifoKnownSaid : Prop := fifoKnownRow.holds Try.pinned (OpenSpec.ofChange fifoKnownSpec)

/-- ITS FALSE NEIGHBOUR: 'it returns false'. Refute it at one input. -/
def fifoKnownWrong : ChangeSpec := { name := "fifoKnown", fn := fun _ => fun
  | [] => { results := [.lit (.bool false)], args := [] }
  | _ => none }
def FifoKnownWrongFalsely : Prop := fifoKnownRow.holds Try.pinned (OpenSpec.ofChange fifoKnownWrong)

/-- 'ploverlaw11.GpioPlays': WHATEVER THE INPUT: true; the input reads as it did. -/
def gpioPlaysSpec : ChangeSpec := { name := "gpioPlays", fn := fun _ => fun
  | [d1, d2, d3] => { results := [.lit (.bool true)], args := [d1, d2, d3] }
  | _ => none }
def gpioPlaysRow : OpenClaim := { program := "ytgifnmiggloclaa", sum := "357fc354d8f2d3269764e639b612f69cc3302d4d7dbd62a7f939520c91032754", func := "plover/ploverlaw11.GpioPlays", spec := "gpioPlays", unfollowed := true, recurses := true, apart := false }
def GpioPlaysSaid : Prop := gpioPlaysRow.holds Try.pinned (OpenSpec.ofChange gpioPlaysSpec)

/-- ITS FALSE NEIGHBOUR: 'it returns false'. Refute it at one input. -/
def gpioPlaysWrong : ChangeSpec := { name := "gpioPlays", fn := fun _ => fun
  | [d1, d2, d3] => { results := [.lit (.bool false)], args := [d1, d2, d3] }
  | _ => none }
def GpioPlaysWrongFalsely : Prop := gpioPlaysRow.holds Try.pinned (OpenSpec.ofChange gpioPlaysWrong)

/-- 'ploverlaw11.GpioEdges': WHATEVER THE INPUT: true; the input reads as it did. -/
def gpioEdgesSpec : ChangeSpec := { name := "gpioEdges", fn := fun _ => fun
  | [d1, d2, d3] => { results := [.lit (.bool true)], args := [d1, d2, d3] }
  | _ => none }
def gpioEdgesRow : OpenClaim := { program := "ytgifnmiggloclaa", sum := "357fc354d8f2d3269764e639b612f69cc3302d4d7dbd62a7f939520c91032754", func := "plover/ploverlaw11.GpioEdges", spec := "gpioEdges", unfollowed := true, recurses := true, apart := false }
def GpioEdgesSaid : Prop := gpioEdgesRow.holds Try.pinned (OpenSpec.ofChange gpioEdgesSpec)

/-- ITS FALSE NEIGHBOUR: 'it returns false'. Refute it at one input. -/
def gpioEdgesWrong : ChangeSpec := { name := "gpioEdges", fn := fun _ => fun
  | [d1, d2, d3] => { results := [.lit (.bool false)], args := [d1, d2, d3] }
  | _ => none }
def GpioEdgesWrongFalsely : Prop := gpioEdgesRow.holds Try.pinned (OpenSpec.ofChange gpioEdgesWrong)

/-- 'ploverlaw11.GpioWrites': WHATEVER THE INPUT: true; the input reads as it did. -/
def gpioWritesSpec : ChangeSpec := { name := "gpioWrites", fn := fun _ => fun
  | [d1, d2, d3] => { results := [.lit (.bool true)], args := [d1, d2, d3] }
  | _ => none }
def gpioWritesRow : OpenClaim := { program := "ytgifnmiggloclaa", sum := "357fc354d8f2d3269764e639b612f69cc3302d4d7dbd62a7f939520c91032754", func := "plover/ploverlaw11.GpioWrites", spec := "gpioWrites", unfollowed := true, recurses := true, apart := false }
def GpioWritesSaid : Prop := gpioWritesRow.holds Try.pinned (OpenSpec.ofChange gpioWritesSpec)

/-- ITS FALSE NEIGHBOUR: 'it returns false'. Refute it at one input. -/
def gpioWritesWrong : ChangeSpec := { name := "gpioWrites", fn := fun _ => fun
  | [d1, d2, d3] => { results := [.lit (.bool false)], args := [d1, d2, d3] }
  | _ => none }
def GpioWritesWrongFalsely : Prop := gpioWritesRow.holds Try.pinned (OpenSpec.ofChange gpioWritesWrong)

/-- 'ploverlaw13.TimerPlays': WHATEVER THE INPUT: true; the input reads as it did. -/
def timerPlaysSpec : ChangeSpec := { name := "timerPlays", fn := fun _ => fun
  | [d1, d2, d3] => { results := [.lit (.bool true)], args := [d1, d2, d3] }
  | _ => none }
def timerPlaysRow : OpenClaim := { program := "ytgifnmiggloclaa", sum := "357fc354d8f2d3269764e639b612f69cc3302d4d7dbd62a7f939520c91032754", func := "plover/ploverlaw13.TimerPlays", spec := "timerPlays", unfollowed := true, recurses := true, apart := false }
def TimerPlaysSaid : Prop := timerPlaysRow.holds Try.pinned (OpenSpec.ofChange timerPlaysSpec)

/-- ITS FALSE NEIGHBOUR: 'it returns false'. Refute it at one input. -/
def timerPlaysWrong : ChangeSpec := { name := "timerPlays", fn := fun _ => fun
  | [d1, d2, d3] => { results := [.lit (.bool false)], args := [d1, d2, d3] }
  | _ => none }
def TimerPlaysWrongFalsely : Prop := timerPlaysRow.holds Try.pinned (OpenSpec.ofChange timerPlaysWrong)

/-- 'ploverlaw13.TimerPeriod': WHATEVER THE INPUT: true; the input reads as it did. -/
def timerPeriodSpec : ChangeSpec := { name := "timerPeriod", fn := fun _ => fun
  | [d1, d2, d3] => { results := [.lit (.bool true)], args := [d1, d2, d3] }
  | _ => none }
def timerPeriodRow : OpenClaim := { program := "ytgifnmiggloclaa", sum := "357fc354d8f2d3269764e639b612f69cc3302d4d7dbd62a7f939520c91032754", func := "plover/ploverlaw13.TimerPeriod", spec := "timerPeriod", unfollowed := true, recurses := true, apart := false }
def TimerPeriodSaid : Prop := timerPeriodRow.holds Try.pinned (OpenSpec.ofChange timerPeriodSpec)

/-- ITS FALSE NEIGHBOUR: 'it returns false'. Refute it at one input. -/
def timerPeriodWrong : ChangeSpec := { name := "timerPeriod", fn := fun _ => fun
  | [d1, d2, d3] => { results := [.lit (.bool false)], args := [d1, d2, d3] }
  | _ => none }
def TimerPeriodWrongFalsely : Prop := timerPeriodRow.holds Try.pinned (OpenSpec.ofChange timerPeriodWrong)

/-- 'ploverlaw13.TimerKnown': WHATEVER THE INPUT: true; the input reads as it did. -/
def timerKnownSpec : ChangeSpec := { name := "timerKnown", fn := fun _ => fun
  | [] => { results := [.lit (.bool true)], args := [] }
  | _ => none }
def timerKnownRow : OpenClaim := { program := "ytgifnmiggloclaa", sum := "357fc354d8f2d3269764e639b612f69cc3302d4d7dbd62a7f939520c91032754", func := "plover/ploverlaw13.TimerKnown", spec := "timerKnown", unfollowed := true, recurses := true, apart := false }
def TimerKnownSaid : Prop := timerKnownRow.holds Try.pinned (OpenSpec.ofChange timerKnownSpec)

/-- ITS FALSE NEIGHBOUR: 'it returns false'. Refute it at one input. -/
def timerKnownWrong : ChangeSpec := { name := "timerKnown", fn := fun _ => fun
  | [] => { results := [.lit (.bool false)], args := [] }
  | _ => none }
def TimerKnownWrongFalsely : Prop := timerKnownRow.holds Try.pinned (OpenSpec.ofChange timerKnownWrong)

/-- 'ploverlaw13.TimerRests': WHATEVER THE INPUT: true; the input reads as it did. -/
def timerRestsSpec : ChangeSpec := { name := "timerRests", fn := fun _ => fun
  | [d1, d2, d3] => { results := [.lit (.bool true)], args := [d1, d2, d3] }
  | _ => none }
def timerRestsRow : OpenClaim := { program := "ytgifnmiggloclaa", sum := "357fc354d8f2d3269764e639b612f69cc3302d4d7dbd62a7f939520c91032754", func := "plover/ploverlaw13.TimerRests", spec := "timerRests", unfollowed := true, recurses := true, apart := false }
def TimerRestsSaid : Prop := timerRestsRow.holds Try.pinned (OpenSpec.ofChange timerRestsSpec)

/-- ITS FALSE NEIGHBOUR: 'it returns false'. Refute it at one input. -/
def timerRestsWrong : ChangeSpec := { name := "timerRests", fn := fun _ => fun
  | [d1, d2, d3] => { results := [.lit (.bool false)], args := [d1, d2, d3] }
  | _ => none }
def TimerRestsWrongFalsely : Prop := timerRestsRow.holds Try.pinned (OpenSpec.ofChange timerRestsWrong)

/-- 'ploverlaw14.IrqLevels': WHATEVER THE INPUT: true; the input reads as it did. -/
def irqLevelsSpec : ChangeSpec := { name := "irqLevels", fn := fun _ => fun
  | [d1, d2, d3] => { results := [.lit (.bool true)], args := [d1, d2, d3] }
  | _ => none }
def irqLevelsRow : OpenClaim := { program := "ytgifnmiggloclaa", sum := "357fc354d8f2d3269764e639b612f69cc3302d4d7dbd62a7f939520c91032754", func := "plover/ploverlaw14.IrqLevels", spec := "irqLevels", unfollowed := true, recurses := true, apart := false }
def IrqLevelsSaid : Prop := irqLevelsRow.holds Try.pinned (OpenSpec.ofChange irqLevelsSpec)

/-- ITS FALSE NEIGHBOUR: 'it returns false'. Refute it at one input. -/
def irqLevelsWrong : ChangeSpec := { name := "irqLevels", fn := fun _ => fun
  | [d1, d2, d3] => { results := [.lit (.bool false)], args := [d1, d2, d3] }
  | _ => none }
def IrqLevelsWrongFalsely : Prop := irqLevelsRow.holds Try.pinned (OpenSpec.ofChange irqLevelsWrong)

/-- 'ploverlaw14.IrqTells': WHATEVER THE INPUT: true; the input reads as it did. -/
def irqTellsSpec : ChangeSpec := { name := "irqTells", fn := fun _ => fun
  | [d1, d2, d3] => { results := [.lit (.bool true)], args := [d1, d2, d3] }
  | _ => none }
def irqTellsRow : OpenClaim := { program := "ytgifnmiggloclaa", sum := "357fc354d8f2d3269764e639b612f69cc3302d4d7dbd62a7f939520c91032754", func := "plover/ploverlaw14.IrqTells", spec := "irqTells", unfollowed := true, recurses := true, apart := false }
def IrqTellsSaid : Prop := irqTellsRow.holds Try.pinned (OpenSpec.ofChange irqTellsSpec)

/-- ITS FALSE NEIGHBOUR: 'it returns false'. Refute it at one input. -/
def irqTellsWrong : ChangeSpec := { name := "irqTells", fn := fun _ => fun
  | [d1, d2, d3] => { results := [.lit (.bool false)], args := [d1, d2, d3] }
  | _ => none }
def IrqTellsWrongFalsely : Prop := irqTellsRow.holds Try.pinned (OpenSpec.ofChange irqTellsWrong)

/- THE SECOND FORM. 'bulk': how many values and letters a reading holds, each counted each time it is reached (what is shared counts as often as it is met; a slice's spare places count too). A statement '..UptoSaid' is the law's where the arguments, and the package variables that the reading takes, are together of bulk at most 1048576: NARROWER than '..Said'. Prove '..Said' where nothing that the law and all that it calls make is longer than what came in: it says more and counts as full. Else prove '..UptoSaid'. A law counts once. -/
mutual
def uptoBulk {H : Type} : DataW H → Nat
  | .lit (.string bytes) => bytes.length + 1
  | .lit _ => 1
  | .nil => 1
  | .ptr d => uptoBulk d + 1
  | .slice elems spare => uptoBulkAll elems + uptoBulkAll spare + 1
  | .agg parts => uptoBulkAll parts + 1
  | .iface _ d => uptoBulk d + 1
  | .map entries => uptoBulkEntries entries + 1
  | .held _ => 1
def uptoBulkAll {H : Type} : List (DataW H) → Nat
  | [] => 0
  | d :: r => uptoBulk d + uptoBulkAll r
def uptoBulkEntries {H : Type} : List (Lit × DataW H) → Nat
  | [] => 0
  | x :: r => uptoBulkEntry x + uptoBulkEntries r
def uptoBulkEntry {H : Type} : Lit × DataW H → Nat
  | (.string bytes, d) => bytes.length + uptoBulk d + 1
  | (_, d) => uptoBulk d + 1
 end
def uptoSmall : (H : Type) → List (DataW H) → Bool := fun _ ds => decide (uptoBulkAll ds ≤ 1048576)
def OpenSpec.upto (s : _root_.Go.ChangeSpec) : _root_.Go.OpenSpec := { _root_.Go.OpenSpec.ofChange s with cond := some uptoSmall }

/-- 'ploverlaw10.FifoTells', WHERE WHAT IT READS IS OF BULK AT MOST 1048576: true; the input reads as it did. -/
def fifoTellsUptoRow : OpenClaim := { program := "ytgifnmiggloclaa", sum := "357fc354d8f2d3269764e639b612f69cc3302d4d7dbd62a7f939520c91032754", func := "plover/ploverlaw10.FifoTells", spec := "fifoTells", apart := false, narrowed := true }
def FifoTellsUptoSaid : Prop := fifoTellsUptoRow.holds Try.pinned (OpenSpec.upto fifoTellsSpec)

/-- 'ploverlaw10.FifoOrder', WHERE WHAT IT READS IS OF BULK AT MOST 1048576: true; the input reads as it did. -/
def fifoOrderUptoRow : OpenClaim := { program := "ytgifnmiggloclaa", sum := "357fc354d8f2d3269764e639b612f69cc3302d4d7dbd62a7f939520c91032754", func := "plover/ploverlaw10.FifoOrder", spec := "fifoOrder", apart := false, narrowed := true }
def FifoOrderUptoSaid : Prop := fifoOrderUptoRow.holds Try.pinned (OpenSpec.upto fifoOrderSpec)

/-- 'ploverlaw10.FifoKnown', WHERE WHAT IT READS IS OF BULK AT MOST 1048576: true; the input reads as it did. -/
def fifoKnownUptoRow : OpenClaim := { program := "ytgifnmiggloclaa", sum := "357fc354d8f2d3269764e639b612f69cc3302d4d7dbd62a7f939520c91032754", func := "plover/ploverlaw10.FifoKnown", spec := "fifoKnown", apart := false, narrowed := true }
def FifoKnownUptoSaid : Prop := fifoKnownUptoRow.holds Try.pinned (OpenSpec.upto fifoKnownSpec)

/-- 'ploverlaw11.GpioPlays', WHERE WHAT IT READS IS OF BULK AT MOST 1048576: true; the input reads as it did. -/
def gpioPlaysUptoRow : OpenClaim := { program := "ytgifnmiggloclaa", sum := "357fc354d8f2d3269764e639b612f69cc3302d4d7dbd62a7f939520c91032754", func := "plover/ploverlaw11.GpioPlays", spec := "gpioPlays", unfollowed := true, recurses := true, apart := false, narrowed := true }
def GpioPlaysUptoSaid : Prop := gpioPlaysUptoRow.holds Try.pinned (OpenSpec.upto gpioPlaysSpec)

/-- 'ploverlaw11.GpioEdges', WHERE WHAT IT READS IS OF BULK AT MOST 1048576: true; the input reads as it did. -/
def gpioEdgesUptoRow : OpenClaim := { program := "ytgifnmiggloclaa", sum := "357fc354d8f2d3269764e639b612f69cc3302d4d7dbd62a7f939520c91032754", func := "plover/ploverlaw11.GpioEdges", spec := "gpioEdges", unfollowed := true, recurses := true, apart := false, narrowed := true }
def GpioEdgesUptoSaid : Prop := gpioEdgesUptoRow.holds Try.pinned (OpenSpec.upto gpioEdgesSpec)

/-- 'ploverlaw11.GpioWrites', WHERE WHAT IT READS IS OF BULK AT MOST 1048576: true; the input reads as it did. -/
def gpioWritesUptoRow : OpenClaim := { program := "ytgifnmiggloclaa", sum := "357fc354d8f2d3269764e639b612f69cc3302d4d7dbd62a7f939520c91032754", func := "plover/ploverlaw11.GpioWrites", spec := "gpioWrites", unfollowed := true, recurses := true, apart := false, narrowed := true }
def GpioWritesUptoSaid : Prop := gpioWritesUptoRow.holds Try.pinned (OpenSpec.upto gpioWritesSpec)

/-- 'ploverlaw13.TimerPlays', WHERE WHAT IT READS IS OF BULK AT MOST 1048576: true; the input reads as it did. -/
def timerPlaysUptoRow : OpenClaim := { program := "ytgifnmiggloclaa", sum := "357fc354d8f2d3269764e639b612f69cc3302d4d7dbd62a7f939520c91032754", func := "plover/ploverlaw13.TimerPlays", spec := "timerPlays", unfollowed := true, recurses := true, apart := false, narrowed := true }
def TimerPlaysUptoSaid : Prop := timerPlaysUptoRow.holds Try.pinned (OpenSpec.upto timerPlaysSpec)

/-- 'ploverlaw13.TimerPeriod', WHERE WHAT IT READS IS OF BULK AT MOST 1048576: true; the input reads as it did. -/
def timerPeriodUptoRow : OpenClaim := { program := "ytgifnmiggloclaa", sum := "357fc354d8f2d3269764e639b612f69cc3302d4d7dbd62a7f939520c91032754", func := "plover/ploverlaw13.TimerPeriod", spec := "timerPeriod", unfollowed := true, recurses := true, apart := false, narrowed := true }
def TimerPeriodUptoSaid : Prop := timerPeriodUptoRow.holds Try.pinned (OpenSpec.upto timerPeriodSpec)

/-- 'ploverlaw13.TimerKnown', WHERE WHAT IT READS IS OF BULK AT MOST 1048576: true; the input reads as it did. -/
def timerKnownUptoRow : OpenClaim := { program := "ytgifnmiggloclaa", sum := "357fc354d8f2d3269764e639b612f69cc3302d4d7dbd62a7f939520c91032754", func := "plover/ploverlaw13.TimerKnown", spec := "timerKnown", unfollowed := true, recurses := true, apart := false, narrowed := true }
def TimerKnownUptoSaid : Prop := timerKnownUptoRow.holds Try.pinned (OpenSpec.upto timerKnownSpec)

/-- 'ploverlaw13.TimerRests', WHERE WHAT IT READS IS OF BULK AT MOST 1048576: true; the input reads as it did. -/
def timerRestsUptoRow : OpenClaim := { program := "ytgifnmiggloclaa", sum := "357fc354d8f2d3269764e639b612f69cc3302d4d7dbd62a7f939520c91032754", func := "plover/ploverlaw13.TimerRests", spec := "timerRests", unfollowed := true, recurses := true, apart := false, narrowed := true }
def TimerRestsUptoSaid : Prop := timerRestsUptoRow.holds Try.pinned (OpenSpec.upto timerRestsSpec)

/-- 'ploverlaw14.IrqLevels', WHERE WHAT IT READS IS OF BULK AT MOST 1048576: true; the input reads as it did. -/
def irqLevelsUptoRow : OpenClaim := { program := "ytgifnmiggloclaa", sum := "357fc354d8f2d3269764e639b612f69cc3302d4d7dbd62a7f939520c91032754", func := "plover/ploverlaw14.IrqLevels", spec := "irqLevels", unfollowed := true, recurses := true, apart := false, narrowed := true }
def IrqLevelsUptoSaid : Prop := irqLevelsUptoRow.holds Try.pinned (OpenSpec.upto irqLevelsSpec)

/-- 'ploverlaw14.IrqTells', WHERE WHAT IT READS IS OF BULK AT MOST 1048576: true; the input reads as it did. -/
def irqTellsUptoRow : OpenClaim := { program := "ytgifnmiggloclaa", sum := "357fc354d8f2d3269764e639b612f69cc3302d4d7dbd62a7f939520c91032754", func := "plover/ploverlaw14.IrqTells", spec := "irqTells", unfollowed := true, recurses := true, apart := false, narrowed := true }
def IrqTellsUptoSaid : Prop := irqTellsUptoRow.holds Try.pinned (OpenSpec.upto irqTellsSpec)

end Rows
end Go.Proofs.Ytgifnmiggloclaa
