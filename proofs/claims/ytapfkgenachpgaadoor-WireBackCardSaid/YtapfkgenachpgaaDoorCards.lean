/-
  DERIVED. GIVEN WITH THE SEED: THE CARDS: each row of YtapfkgenachpgaaDoorRows.lean that lists a variable, with what it lists TIED to the program's text (the seventh form; the later family's looks); each row that meets fmt, with fmt's text TOLD by the authors' own Lean function (tested against real Go, not proved from fmt's source: count such statements apart). THE CARD IS WHAT COUNTS. Prove the row's statement (the work); the ties are given (YtapfkgenachpgaaDoorTie.lean); close each card by the builder's one call (the guide's Derived/Test/ToyasCard.lean, 'card_holds'). Laid BY PROGRAM, IN A SANDBOX (cutbox-door.mjs). By AI agents, Wed Nov 11 2026. No macro, syntax, notation, axiom, sorry.
-/
import Derived.Test.YtapfkgenachpgaaDoorRows
import GoSem.ClaimSeven
namespace Go.Proofs.YtapfkgenachpgaaDoor
namespace Rows

/-- THE TIED CARD OF 'ploverlaw01.WireOrder'. -/
def wireOrderCard : Claim7 := { stood := { row := wireOrderRow, standIns := [], harness := (true, "c2838ca91c28a9fb7908c478833805ac40200ffe986e5b7931e25f0c134e5a5f"), looks := true }, kinds := [], alts := [], laidByText := true, laidKinds := [.handle], laidTests := true, laidLooks := .later }
def WireOrderCardSaid : Prop := Claim7.holds Tryd.pinned (.plain (OpenSpec.ofChange wireOrderSpec)) wireOrderCard

/-- THE TIED CARD OF 'ploverlaw01.WireLays'. -/
def wireLaysCard : Claim7 := { stood := { row := wireLaysRow, standIns := [], harness := (true, "c2838ca91c28a9fb7908c478833805ac40200ffe986e5b7931e25f0c134e5a5f"), looks := true }, kinds := [], alts := [], laidByText := true, laidKinds := [.handle], laidTests := true, laidLooks := .later }
def WireLaysCardSaid : Prop := Claim7.holds Tryd.pinned (.plain (OpenSpec.ofChange wireLaysSpec)) wireLaysCard

/-- THE TIED CARD OF 'ploverlaw01.WireReads'. -/
def wireReadsCard : Claim7 := { stood := { row := wireReadsRow, standIns := [], harness := (true, "c2838ca91c28a9fb7908c478833805ac40200ffe986e5b7931e25f0c134e5a5f"), looks := true }, kinds := [], alts := [], laidByText := true, laidKinds := [.handle], laidTests := true, laidLooks := .later }
def WireReadsCardSaid : Prop := Claim7.holds Tryd.pinned (.plain (OpenSpec.ofChange wireReadsSpec)) wireReadsCard

/-- THE TIED CARD OF 'ploverlaw01.WireBack'. -/
def wireBackCard : Claim7 := { stood := { row := wireBackRow, standIns := [], harness := (true, "c2838ca91c28a9fb7908c478833805ac40200ffe986e5b7931e25f0c134e5a5f"), looks := true }, kinds := [], alts := [], laidByText := true, laidKinds := [.handle], laidTests := true, laidLooks := .later }
def WireBackCardSaid : Prop := Claim7.holds Tryd.pinned (.plain (OpenSpec.ofChange wireBackSpec)) wireBackCard

/-- THE TIED CARD OF 'ploverlaw01.WireKnown'. -/
def wireKnownCard : Claim7 := { stood := { row := wireKnownRow, standIns := [], harness := (true, "c2838ca91c28a9fb7908c478833805ac40200ffe986e5b7931e25f0c134e5a5f"), looks := true }, kinds := [], alts := [], laidByText := true, laidKinds := [.handle], laidTests := true, laidLooks := .later }
def WireKnownCardSaid : Prop := Claim7.holds Tryd.pinned (.plain (OpenSpec.ofChange wireKnownSpec)) wireKnownCard

/-- THE SECOND FORM's CARD OF 'ploverlaw01.WireOrder'. -/
def wireOrderUptoCard : Claim7 := { stood := { row := wireOrderUptoRow, standIns := [], harness := (true, "c2838ca91c28a9fb7908c478833805ac40200ffe986e5b7931e25f0c134e5a5f"), looks := true }, kinds := [], alts := [], laidByText := true, laidKinds := [.handle], laidTests := true, laidLooks := .later }
def WireOrderUptoCardSaid : Prop := Claim7.holds Tryd.pinned (.plain (OpenSpec.upto wireOrderSpec)) wireOrderUptoCard

/-- THE SECOND FORM's CARD OF 'ploverlaw01.WireLays'. -/
def wireLaysUptoCard : Claim7 := { stood := { row := wireLaysUptoRow, standIns := [], harness := (true, "c2838ca91c28a9fb7908c478833805ac40200ffe986e5b7931e25f0c134e5a5f"), looks := true }, kinds := [], alts := [], laidByText := true, laidKinds := [.handle], laidTests := true, laidLooks := .later }
def WireLaysUptoCardSaid : Prop := Claim7.holds Tryd.pinned (.plain (OpenSpec.upto wireLaysSpec)) wireLaysUptoCard

/-- THE SECOND FORM's CARD OF 'ploverlaw01.WireReads'. -/
def wireReadsUptoCard : Claim7 := { stood := { row := wireReadsUptoRow, standIns := [], harness := (true, "c2838ca91c28a9fb7908c478833805ac40200ffe986e5b7931e25f0c134e5a5f"), looks := true }, kinds := [], alts := [], laidByText := true, laidKinds := [.handle], laidTests := true, laidLooks := .later }
def WireReadsUptoCardSaid : Prop := Claim7.holds Tryd.pinned (.plain (OpenSpec.upto wireReadsSpec)) wireReadsUptoCard

/-- THE SECOND FORM's CARD OF 'ploverlaw01.WireBack'. -/
def wireBackUptoCard : Claim7 := { stood := { row := wireBackUptoRow, standIns := [], harness := (true, "c2838ca91c28a9fb7908c478833805ac40200ffe986e5b7931e25f0c134e5a5f"), looks := true }, kinds := [], alts := [], laidByText := true, laidKinds := [.handle], laidTests := true, laidLooks := .later }
def WireBackUptoCardSaid : Prop := Claim7.holds Tryd.pinned (.plain (OpenSpec.upto wireBackSpec)) wireBackUptoCard

/-- THE SECOND FORM's CARD OF 'ploverlaw01.WireKnown'. -/
def wireKnownUptoCard : Claim7 := { stood := { row := wireKnownUptoRow, standIns := [], harness := (true, "c2838ca91c28a9fb7908c478833805ac40200ffe986e5b7931e25f0c134e5a5f"), looks := true }, kinds := [], alts := [], laidByText := true, laidKinds := [.handle], laidTests := true, laidLooks := .later }
def WireKnownUptoCardSaid : Prop := Claim7.holds Tryd.pinned (.plain (OpenSpec.upto wireKnownSpec)) wireKnownUptoCard
end Rows
end Go.Proofs.YtapfkgenachpgaaDoor
