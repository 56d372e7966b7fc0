/-
  No cell of these rows narrows 'for every input' (looked for: loops, veiled, ifaces, maps, wideKeys, modest, calm, conditions, laid).
  DERIVED. THE GIVEN ROWS OF THIS SEAT. 10 by the template 'for every input the law returns true; each argument reads behind the call as it read before'; 0 by the template 'total and deterministic' (their statements: YtgifnmiggloclabTotals.lean).
  GIVEN WITH THE SEED: the statements are not yours to turn. If you find one false, say at which input.
  Laid BY PROGRAM, IN A SANDBOX (cutbox-rows.mjs): the forced cells as the released guide's own fill.sh prints them over the translation 2ace4f8f197bb561… (all of the seat's roots in one cut). By AI agents, Wed Nov 11 2026. No macro, syntax, notation, axiom, sorry.
-/
import Derived.Test.YtgifnmiggloclabChecked
import GoSem.Claim
import GoSem.ClaimJoined
import GoSem.ClaimMapViews
import Derived.JoinedTies
import Derived.KernelRfl
namespace Go.Proofs.Ytgifnmiggloclab
/- THE CELL 'sum', in the pinned program and in every row, IS THE sha256 OF THE DUMP (.gsa) THAT YtgifnmiggloclabProg.lean LOADS. Nothing in Lean hashes anything: it is a label: what it is worth is what the hold of that sum in a sandbox is worth. -/
noncomputable def Try.pinned : Pinned := { name := "ytgifnmiggloclab", sum := "2ace4f8f197bb561c7ca64502fd2067e62f30816db6693e65546d4a10bd79991", checked := Try.checked }
namespace Rows
def none {H : Type} : Left H := { results := [], args := [] }

/-- 'ploverlaw14.IrqKeeps': WHATEVER THE INPUT: true; the input reads as it did. -/
def irqKeepsSpec : ChangeSpec := { name := "irqKeeps", fn := fun _ => fun
  | [d1, d2] => { results := [.lit (.bool true)], args := [d1, d2] }
  | _ => none }
def irqKeepsRow : OpenClaim := { program := "ytgifnmiggloclab", sum := "2ace4f8f197bb561c7ca64502fd2067e62f30816db6693e65546d4a10bd79991", func := "plover/ploverlaw14.IrqKeeps", spec := "irqKeeps", unfollowed := true, recurses := true, apart := false }
def IrqKeepsSaid : Prop := irqKeepsRow.holds Try.pinned (OpenSpec.ofChange irqKeepsSpec)

/-- ITS FALSE NEIGHBOUR: 'it returns false'. Refute it at one input. -/
def irqKeepsWrong : ChangeSpec := { name := "irqKeeps", fn := fun _ => fun
  | [d1, d2] => { results := [.lit (.bool false)], args := [d1, d2] }
  | _ => none }
def IrqKeepsWrongFalsely : Prop := irqKeepsRow.holds Try.pinned (OpenSpec.ofChange irqKeepsWrong)

/-- 'ploverlaw12.UartOrder': WHATEVER THE INPUT: true; the input reads as it did. -/
def uartOrderSpec : ChangeSpec := { name := "uartOrder", fn := fun _ => fun
  | [d] => { results := [.lit (.bool true)], args := [d] }
  | _ => none }
def uartOrderRow : OpenClaim := { program := "ytgifnmiggloclab", sum := "2ace4f8f197bb561c7ca64502fd2067e62f30816db6693e65546d4a10bd79991", func := "plover/ploverlaw12.UartOrder", spec := "uartOrder", unfollowed := true, recurses := true, apart := false }
def UartOrderSaid : Prop := uartOrderRow.holds Try.pinned (OpenSpec.ofChange uartOrderSpec)

/-- ITS FALSE NEIGHBOUR: 'it returns false'. Refute it at one input. -/
def uartOrderWrong : ChangeSpec := { name := "uartOrder", fn := fun _ => fun
  | [d] => { results := [.lit (.bool false)], args := [d] }
  | _ => none }
def UartOrderWrongFalsely : Prop := uartOrderRow.holds Try.pinned (OpenSpec.ofChange uartOrderWrong)

/-- 'ploverlaw12.UartKnown': WHATEVER THE INPUT: true; the input reads as it did. -/
def uartKnownSpec : ChangeSpec := { name := "uartKnown", fn := fun _ => fun
  | [] => { results := [.lit (.bool true)], args := [] }
  | _ => none }
def uartKnownRow : OpenClaim := { program := "ytgifnmiggloclab", sum := "2ace4f8f197bb561c7ca64502fd2067e62f30816db6693e65546d4a10bd79991", func := "plover/ploverlaw12.UartKnown", spec := "uartKnown", unfollowed := true, recurses := true, apart := false }
def UartKnownSaid : Prop := uartKnownRow.holds Try.pinned (OpenSpec.ofChange uartKnownSpec)

/-- ITS FALSE NEIGHBOUR: 'it returns false'. Refute it at one input. -/
def uartKnownWrong : ChangeSpec := { name := "uartKnown", fn := fun _ => fun
  | [] => { results := [.lit (.bool false)], args := [] }
  | _ => none }
def UartKnownWrongFalsely : Prop := uartKnownRow.holds Try.pinned (OpenSpec.ofChange uartKnownWrong)

/-- 'ploverlaw12.UartApart': WHATEVER THE INPUT: true; the input reads as it did. -/
def uartApartSpec : ChangeSpec := { name := "uartApart", fn := fun _ => fun
  | [d] => { results := [.lit (.bool true)], args := [d] }
  | _ => none }
def uartApartRow : OpenClaim := { program := "ytgifnmiggloclab", sum := "2ace4f8f197bb561c7ca64502fd2067e62f30816db6693e65546d4a10bd79991", func := "plover/ploverlaw12.UartApart", spec := "uartApart", unfollowed := true, recurses := true, apart := false }
def UartApartSaid : Prop := uartApartRow.holds Try.pinned (OpenSpec.ofChange uartApartSpec)

/-- ITS FALSE NEIGHBOUR: 'it returns false'. Refute it at one input. -/
def uartApartWrong : ChangeSpec := { name := "uartApart", fn := fun _ => fun
  | [d] => { results := [.lit (.bool false)], args := [d] }
  | _ => none }
def UartApartWrongFalsely : Prop := uartApartRow.holds Try.pinned (OpenSpec.ofChange uartApartWrong)

/-- 'ploverlaw12.UartTells': WHATEVER THE INPUT: true; the input reads as it did. -/
def uartTellsSpec : ChangeSpec := { name := "uartTells", fn := fun _ => fun
  | [d1, d2, d3] => { results := [.lit (.bool true)], args := [d1, d2, d3] }
  | _ => none }
def uartTellsRow : OpenClaim := { program := "ytgifnmiggloclab", sum := "2ace4f8f197bb561c7ca64502fd2067e62f30816db6693e65546d4a10bd79991", func := "plover/ploverlaw12.UartTells", spec := "uartTells", unfollowed := true, recurses := true, apart := false }
def UartTellsSaid : Prop := uartTellsRow.holds Try.pinned (OpenSpec.ofChange uartTellsSpec)

/-- ITS FALSE NEIGHBOUR: 'it returns false'. Refute it at one input. -/
def uartTellsWrong : ChangeSpec := { name := "uartTells", fn := fun _ => fun
  | [d1, d2, d3] => { results := [.lit (.bool false)], args := [d1, d2, d3] }
  | _ => none }
def UartTellsWrongFalsely : Prop := uartTellsRow.holds Try.pinned (OpenSpec.ofChange uartTellsWrong)

/-- 'ploverlaw15.BankKeeps': WHATEVER THE INPUT: true; the input reads as it did. -/
def bankKeepsSpec : ChangeSpec := { name := "bankKeeps", fn := fun _ => fun
  | [d1, d2] => { results := [.lit (.bool true)], args := [d1, d2] }
  | _ => none }
def bankKeepsRow : OpenClaim := { program := "ytgifnmiggloclab", sum := "2ace4f8f197bb561c7ca64502fd2067e62f30816db6693e65546d4a10bd79991", func := "plover/ploverlaw15.BankKeeps", spec := "bankKeeps", unfollowed := true, recurses := true, apart := false }
def BankKeepsSaid : Prop := bankKeepsRow.holds Try.pinned (OpenSpec.ofChange bankKeepsSpec)

/-- ITS FALSE NEIGHBOUR: 'it returns false'. Refute it at one input. -/
def bankKeepsWrong : ChangeSpec := { name := "bankKeeps", fn := fun _ => fun
  | [d1, d2] => { results := [.lit (.bool false)], args := [d1, d2] }
  | _ => none }
def BankKeepsWrongFalsely : Prop := bankKeepsRow.holds Try.pinned (OpenSpec.ofChange bankKeepsWrong)

/-- 'ploverlaw15.BankTicks': WHATEVER THE INPUT: true; the input reads as it did. -/
def bankTicksSpec : ChangeSpec := { name := "bankTicks", fn := fun _ => fun
  | [d1, d2] => { results := [.lit (.bool true)], args := [d1, d2] }
  | _ => none }
def bankTicksRow : OpenClaim := { program := "ytgifnmiggloclab", sum := "2ace4f8f197bb561c7ca64502fd2067e62f30816db6693e65546d4a10bd79991", func := "plover/ploverlaw15.BankTicks", spec := "bankTicks", unfollowed := true, recurses := true, apart := false }
def BankTicksSaid : Prop := bankTicksRow.holds Try.pinned (OpenSpec.ofChange bankTicksSpec)

/-- ITS FALSE NEIGHBOUR: 'it returns false'. Refute it at one input. -/
def bankTicksWrong : ChangeSpec := { name := "bankTicks", fn := fun _ => fun
  | [d1, d2] => { results := [.lit (.bool false)], args := [d1, d2] }
  | _ => none }
def BankTicksWrongFalsely : Prop := bankTicksRow.holds Try.pinned (OpenSpec.ofChange bankTicksWrong)

/-- 'ploverlaw15.BankPlays': WHATEVER THE INPUT: true; the input reads as it did. -/
def bankPlaysSpec : ChangeSpec := { name := "bankPlays", fn := fun _ => fun
  | [d] => { results := [.lit (.bool true)], args := [d] }
  | _ => none }
def bankPlaysRow : OpenClaim := { program := "ytgifnmiggloclab", sum := "2ace4f8f197bb561c7ca64502fd2067e62f30816db6693e65546d4a10bd79991", func := "plover/ploverlaw15.BankPlays", spec := "bankPlays", unfollowed := true, recurses := true, apart := false }
def BankPlaysSaid : Prop := bankPlaysRow.holds Try.pinned (OpenSpec.ofChange bankPlaysSpec)

/-- ITS FALSE NEIGHBOUR: 'it returns false'. Refute it at one input. -/
def bankPlaysWrong : ChangeSpec := { name := "bankPlays", fn := fun _ => fun
  | [d] => { results := [.lit (.bool false)], args := [d] }
  | _ => none }
def BankPlaysWrongFalsely : Prop := bankPlaysRow.holds Try.pinned (OpenSpec.ofChange bankPlaysWrong)

/-- 'ploverlaw15.BankApart': WHATEVER THE INPUT: true; the input reads as it did. -/
def bankApartSpec : ChangeSpec := { name := "bankApart", fn := fun _ => fun
  | [d1, d2, d3] => { results := [.lit (.bool true)], args := [d1, d2, d3] }
  | _ => none }
def bankApartRow : OpenClaim := { program := "ytgifnmiggloclab", sum := "2ace4f8f197bb561c7ca64502fd2067e62f30816db6693e65546d4a10bd79991", func := "plover/ploverlaw15.BankApart", spec := "bankApart", unfollowed := true, recurses := true, apart := false }
def BankApartSaid : Prop := bankApartRow.holds Try.pinned (OpenSpec.ofChange bankApartSpec)

/-- ITS FALSE NEIGHBOUR: 'it returns false'. Refute it at one input. -/
def bankApartWrong : ChangeSpec := { name := "bankApart", fn := fun _ => fun
  | [d1, d2, d3] => { results := [.lit (.bool false)], args := [d1, d2, d3] }
  | _ => none }
def BankApartWrongFalsely : Prop := bankApartRow.holds Try.pinned (OpenSpec.ofChange bankApartWrong)

/-- 'ploverlaw15.BankKnown': WHATEVER THE INPUT: true; the input reads as it did. -/
def bankKnownSpec : ChangeSpec := { name := "bankKnown", fn := fun _ => fun
  | [] => { results := [.lit (.bool true)], args := [] }
  | _ => none }
def bankKnownRow : OpenClaim := { program := "ytgifnmiggloclab", sum := "2ace4f8f197bb561c7ca64502fd2067e62f30816db6693e65546d4a10bd79991", func := "plover/ploverlaw15.BankKnown", spec := "bankKnown", unfollowed := true, recurses := true, apart := false }
def BankKnownSaid : Prop := bankKnownRow.holds Try.pinned (OpenSpec.ofChange bankKnownSpec)

/-- ITS FALSE NEIGHBOUR: 'it returns false'. Refute it at one input. -/
def bankKnownWrong : ChangeSpec := { name := "bankKnown", fn := fun _ => fun
  | [] => { results := [.lit (.bool false)], args := [] }
  | _ => none }
def BankKnownWrongFalsely : Prop := bankKnownRow.holds Try.pinned (OpenSpec.ofChange bankKnownWrong)

/- THE SECOND FORM. 'bulk': how many values and letters a reading holds, each counted each time it is reached (what is shared counts as often as it is met; a slice's spare places count too). A statement '..UptoSaid' is the law's where the arguments, and the package variables that the reading takes, are together of bulk at most 1048576: NARROWER than '..Said'. Prove '..Said' where nothing that the law and all that it calls make is longer than what came in: it says more and counts as full. Else prove '..UptoSaid'. A law counts once. -/
mutual
def uptoBulk {H : Type} : DataW H → Nat
  | .lit (.string bytes) => bytes.length + 1
  | .lit _ => 1
  | .nil => 1
  | .ptr d => uptoBulk d + 1
  | .slice elems spare => uptoBulkAll elems + uptoBulkAll spare + 1
  | .agg parts => uptoBulkAll parts + 1
  | .iface _ d => uptoBulk d + 1
  | .map entries => uptoBulkEntries entries + 1
  | .held _ => 1
def uptoBulkAll {H : Type} : List (DataW H) → Nat
  | [] => 0
  | d :: r => uptoBulk d + uptoBulkAll r
def uptoBulkEntries {H : Type} : List (Lit × DataW H) → Nat
  | [] => 0
  | x :: r => uptoBulkEntry x + uptoBulkEntries r
def uptoBulkEntry {H : Type} : Lit × DataW H → Nat
  | (.string bytes, d) => bytes.length + uptoBulk d + 1
  | (_, d) => uptoBulk d + 1
 end
def uptoSmall : (H : Type) → List (DataW H) → Bool := fun _ ds => decide (uptoBulkAll ds ≤ 1048576)
def OpenSpec.upto (s : _root_.Go.ChangeSpec) : _root_.Go.OpenSpec := { _root_.Go.OpenSpec.ofChange s with cond := some uptoSmall }

/-- 'ploverlaw14.IrqKeeps', WHERE WHAT IT READS IS OF BULK AT MOST 1048576: true; the input reads as it did. -/
def irqKeepsUptoRow : OpenClaim := { program := "ytgifnmiggloclab", sum := "2ace4f8f197bb561c7ca64502fd2067e62f30816db6693e65546d4a10bd79991", func := "plover/ploverlaw14.IrqKeeps", spec := "irqKeeps", unfollowed := true, recurses := true, apart := false, narrowed := true }
def IrqKeepsUptoSaid : Prop := irqKeepsUptoRow.holds Try.pinned (OpenSpec.upto irqKeepsSpec)

/-- 'ploverlaw12.UartOrder', WHERE WHAT IT READS IS OF BULK AT MOST 1048576: true; the input reads as it did. -/
def uartOrderUptoRow : OpenClaim := { program := "ytgifnmiggloclab", sum := "2ace4f8f197bb561c7ca64502fd2067e62f30816db6693e65546d4a10bd79991", func := "plover/ploverlaw12.UartOrder", spec := "uartOrder", unfollowed := true, recurses := true, apart := false, narrowed := true }
def UartOrderUptoSaid : Prop := uartOrderUptoRow.holds Try.pinned (OpenSpec.upto uartOrderSpec)

/-- 'ploverlaw12.UartKnown', WHERE WHAT IT READS IS OF BULK AT MOST 1048576: true; the input reads as it did. -/
def uartKnownUptoRow : OpenClaim := { program := "ytgifnmiggloclab", sum := "2ace4f8f197bb561c7ca64502fd2067e62f30816db6693e65546d4a10bd79991", func := "plover/ploverlaw12.UartKnown", spec := "uartKnown", unfollowed := true, recurses := true, apart := false, narrowed := true }
def UartKnownUptoSaid : Prop := uartKnownUptoRow.holds Try.pinned (OpenSpec.upto uartKnownSpec)

/-- 'ploverlaw12.UartApart', WHERE WHAT IT READS IS OF BULK AT MOST 1048576: true; the input reads as it did. -/
def uartApartUptoRow : OpenClaim := { program := "ytgifnmiggloclab", sum := "2ace4f8f197bb561c7ca64502fd2067e62f30816db6693e65546d4a10bd79991", func := "plover/ploverlaw12.UartApart", spec := "uartApart", unfollowed := true, recurses := true, apart := false, narrowed := true }
def UartApartUptoSaid : Prop := uartApartUptoRow.holds Try.pinned (OpenSpec.upto uartApartSpec)

/-- 'ploverlaw12.UartTells', WHERE WHAT IT READS IS OF BULK AT MOST 1048576: true; the input reads as it did. -/
def uartTellsUptoRow : OpenClaim := { program := "ytgifnmiggloclab", sum := "2ace4f8f197bb561c7ca64502fd2067e62f30816db6693e65546d4a10bd79991", func := "plover/ploverlaw12.UartTells", spec := "uartTells", unfollowed := true, recurses := true, apart := false, narrowed := true }
def UartTellsUptoSaid : Prop := uartTellsUptoRow.holds Try.pinned (OpenSpec.upto uartTellsSpec)

/-- 'ploverlaw15.BankKeeps', WHERE WHAT IT READS IS OF BULK AT MOST 1048576: true; the input reads as it did. -/
def bankKeepsUptoRow : OpenClaim := { program := "ytgifnmiggloclab", sum := "2ace4f8f197bb561c7ca64502fd2067e62f30816db6693e65546d4a10bd79991", func := "plover/ploverlaw15.BankKeeps", spec := "bankKeeps", unfollowed := true, recurses := true, apart := false, narrowed := true }
def BankKeepsUptoSaid : Prop := bankKeepsUptoRow.holds Try.pinned (OpenSpec.upto bankKeepsSpec)

/-- 'ploverlaw15.BankTicks', WHERE WHAT IT READS IS OF BULK AT MOST 1048576: true; the input reads as it did. -/
def bankTicksUptoRow : OpenClaim := { program := "ytgifnmiggloclab", sum := "2ace4f8f197bb561c7ca64502fd2067e62f30816db6693e65546d4a10bd79991", func := "plover/ploverlaw15.BankTicks", spec := "bankTicks", unfollowed := true, recurses := true, apart := false, narrowed := true }
def BankTicksUptoSaid : Prop := bankTicksUptoRow.holds Try.pinned (OpenSpec.upto bankTicksSpec)

/-- 'ploverlaw15.BankPlays', WHERE WHAT IT READS IS OF BULK AT MOST 1048576: true; the input reads as it did. -/
def bankPlaysUptoRow : OpenClaim := { program := "ytgifnmiggloclab", sum := "2ace4f8f197bb561c7ca64502fd2067e62f30816db6693e65546d4a10bd79991", func := "plover/ploverlaw15.BankPlays", spec := "bankPlays", unfollowed := true, recurses := true, apart := false, narrowed := true }
def BankPlaysUptoSaid : Prop := bankPlaysUptoRow.holds Try.pinned (OpenSpec.upto bankPlaysSpec)

/-- 'ploverlaw15.BankApart', WHERE WHAT IT READS IS OF BULK AT MOST 1048576: true; the input reads as it did. -/
def bankApartUptoRow : OpenClaim := { program := "ytgifnmiggloclab", sum := "2ace4f8f197bb561c7ca64502fd2067e62f30816db6693e65546d4a10bd79991", func := "plover/ploverlaw15.BankApart", spec := "bankApart", unfollowed := true, recurses := true, apart := false, narrowed := true }
def BankApartUptoSaid : Prop := bankApartUptoRow.holds Try.pinned (OpenSpec.upto bankApartSpec)

/-- 'ploverlaw15.BankKnown', WHERE WHAT IT READS IS OF BULK AT MOST 1048576: true; the input reads as it did. -/
def bankKnownUptoRow : OpenClaim := { program := "ytgifnmiggloclab", sum := "2ace4f8f197bb561c7ca64502fd2067e62f30816db6693e65546d4a10bd79991", func := "plover/ploverlaw15.BankKnown", spec := "bankKnown", unfollowed := true, recurses := true, apart := false, narrowed := true }
def BankKnownUptoSaid : Prop := bankKnownUptoRow.holds Try.pinned (OpenSpec.upto bankKnownSpec)

end Rows
end Go.Proofs.Ytgifnmiggloclab
