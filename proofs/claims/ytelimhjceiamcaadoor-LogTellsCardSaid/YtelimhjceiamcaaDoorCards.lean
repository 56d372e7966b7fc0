/-
  DERIVED. GIVEN WITH THE SEED: THE CARDS: each row of YtelimhjceiamcaaDoorRows.lean that lists a variable, with what it lists TIED to the program's text (the seventh form; the later family's looks); each row that meets fmt, with fmt's text TOLD by the authors' own Lean function (tested against real Go, not proved from fmt's source: count such statements apart). THE CARD IS WHAT COUNTS. Prove the row's statement (the work); the ties are given (YtelimhjceiamcaaDoorTie.lean); close each card by the builder's one call (the guide's Derived/Test/ToyasCard.lean, 'card_holds'). Laid BY PROGRAM, IN A SANDBOX (cutbox-door.mjs). By AI agents, Wed Nov 11 2026. No macro, syntax, notation, axiom, sorry.
-/
import Derived.Test.YtelimhjceiamcaaDoorRows
import GoSem.ClaimSeven
namespace Go.Proofs.YtelimhjceiamcaaDoor
namespace Rows

/-- THE TIED CARD OF 'ploverlaw26.LogTells'. -/
def logTellsCard : Claim7 := { stood := { row := logTellsRow, standIns := [], harness := (true, "f7320017d8dbac5bf9390de536c7a94b842b6469bd8c9c4a50570fa0399e2027"), looks := true }, kinds := [], alts := [], laidByText := true, laidKinds := [.handle], laidTests := true, laidLooks := .later }
def LogTellsCardSaid : Prop := Claim7.holds Tryd.pinned (.plain (OpenSpec.ofChange logTellsSpec)) logTellsCard

/-- THE TIED CARD OF 'ploverlaw26.LogReads'. -/
def logReadsCard : Claim7 := { stood := { row := logReadsRow, standIns := [], harness := (true, "f7320017d8dbac5bf9390de536c7a94b842b6469bd8c9c4a50570fa0399e2027"), looks := true }, kinds := [], alts := [], laidByText := true, laidKinds := [.handle], laidTests := true, laidLooks := .later }
def LogReadsCardSaid : Prop := Claim7.holds Tryd.pinned (.plain (OpenSpec.ofChange logReadsSpec)) logReadsCard

/-- THE TIED CARD OF 'ploverlaw26.LogBack'. -/
def logBackCard : Claim7 := { stood := { row := logBackRow, standIns := [], harness := (true, "f7320017d8dbac5bf9390de536c7a94b842b6469bd8c9c4a50570fa0399e2027"), looks := true }, kinds := [], alts := [], laidByText := true, laidKinds := [.handle], laidTests := true, laidLooks := .later }
def LogBackCardSaid : Prop := Claim7.holds Tryd.pinned (.plain (OpenSpec.ofChange logBackSpec)) logBackCard

/-- THE TIED CARD OF 'ploverlaw26.LogKnown'. -/
def logKnownCard : Claim7 := { stood := { row := logKnownRow, standIns := [], harness := (true, "f7320017d8dbac5bf9390de536c7a94b842b6469bd8c9c4a50570fa0399e2027"), looks := true }, kinds := [], alts := [], laidByText := true, laidKinds := [.handle], laidTests := true, laidLooks := .later }
def LogKnownCardSaid : Prop := Claim7.holds Tryd.pinned (.plain (OpenSpec.ofChange logKnownSpec)) logKnownCard

/-- THE TIED CARD OF 'ploverlaw26.LogGrows'. -/
def logGrowsCard : Claim7 := { stood := { row := logGrowsRow, standIns := [], harness := (true, "f7320017d8dbac5bf9390de536c7a94b842b6469bd8c9c4a50570fa0399e2027"), looks := true }, kinds := [], alts := [], laidByText := true, laidKinds := [.handle], laidTests := true, laidLooks := .later }
def LogGrowsCardSaid : Prop := Claim7.holds Tryd.pinned (.plain (OpenSpec.ofChange logGrowsSpec)) logGrowsCard

/-- THE SECOND FORM's CARD OF 'ploverlaw26.LogTells'. -/
def logTellsUptoCard : Claim7 := { stood := { row := logTellsUptoRow, standIns := [], harness := (true, "f7320017d8dbac5bf9390de536c7a94b842b6469bd8c9c4a50570fa0399e2027"), looks := true }, kinds := [], alts := [], laidByText := true, laidKinds := [.handle], laidTests := true, laidLooks := .later }
def LogTellsUptoCardSaid : Prop := Claim7.holds Tryd.pinned (.plain (OpenSpec.upto logTellsSpec)) logTellsUptoCard

/-- THE SECOND FORM's CARD OF 'ploverlaw26.LogReads'. -/
def logReadsUptoCard : Claim7 := { stood := { row := logReadsUptoRow, standIns := [], harness := (true, "f7320017d8dbac5bf9390de536c7a94b842b6469bd8c9c4a50570fa0399e2027"), looks := true }, kinds := [], alts := [], laidByText := true, laidKinds := [.handle], laidTests := true, laidLooks := .later }
def LogReadsUptoCardSaid : Prop := Claim7.holds Tryd.pinned (.plain (OpenSpec.upto logReadsSpec)) logReadsUptoCard

/-- THE SECOND FORM's CARD OF 'ploverlaw26.LogBack'. -/
def logBackUptoCard : Claim7 := { stood := { row := logBackUptoRow, standIns := [], harness := (true, "f7320017d8dbac5bf9390de536c7a94b842b6469bd8c9c4a50570fa0399e2027"), looks := true }, kinds := [], alts := [], laidByText := true, laidKinds := [.handle], laidTests := true, laidLooks := .later }
def LogBackUptoCardSaid : Prop := Claim7.holds Tryd.pinned (.plain (OpenSpec.upto logBackSpec)) logBackUptoCard

/-- THE SECOND FORM's CARD OF 'ploverlaw26.LogKnown'. -/
def logKnownUptoCard : Claim7 := { stood := { row := logKnownUptoRow, standIns := [], harness := (true, "f7320017d8dbac5bf9390de536c7a94b842b6469bd8c9c4a50570fa0399e2027"), looks := true }, kinds := [], alts := [], laidByText := true, laidKinds := [.handle], laidTests := true, laidLooks := .later }
def LogKnownUptoCardSaid : Prop := Claim7.holds Tryd.pinned (.plain (OpenSpec.upto logKnownSpec)) logKnownUptoCard

/-- THE SECOND FORM's CARD OF 'ploverlaw26.LogGrows'. -/
def logGrowsUptoCard : Claim7 := { stood := { row := logGrowsUptoRow, standIns := [], harness := (true, "f7320017d8dbac5bf9390de536c7a94b842b6469bd8c9c4a50570fa0399e2027"), looks := true }, kinds := [], alts := [], laidByText := true, laidKinds := [.handle], laidTests := true, laidLooks := .later }
def LogGrowsUptoCardSaid : Prop := Claim7.holds Tryd.pinned (.plain (OpenSpec.upto logGrowsSpec)) logGrowsUptoCard
end Rows
end Go.Proofs.YtelimhjceiamcaaDoor
