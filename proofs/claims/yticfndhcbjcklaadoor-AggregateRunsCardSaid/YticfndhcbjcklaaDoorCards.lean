/-
  DERIVED. GIVEN WITH THE SEED: THE CARDS: each row of YticfndhcbjcklaaDoorRows.lean that lists a variable, with what it lists TIED to the program's text (the seventh form; the later family's looks); each row that meets fmt, with fmt's text TOLD by the authors' own Lean function (tested against real Go, not proved from fmt's source: count such statements apart). THE CARD IS WHAT COUNTS. Prove the row's statement (the work); the ties are given (YticfndhcbjcklaaDoorTie.lean); close each card by the builder's one call (the guide's Derived/Test/ToyasCard.lean, 'card_holds'). Laid BY PROGRAM, IN A SANDBOX (cutbox-door.mjs). By AI agents, Wed Nov 11 2026. No macro, syntax, notation, axiom, sorry.
-/
import Derived.Test.YticfndhcbjcklaaDoorRows
import GoSem.ClaimSeven
namespace Go.Proofs.YticfndhcbjcklaaDoor
namespace Rows

/-- THE TIED CARD OF 'attestorlaw32.AggregateInputs'. -/
def aggregateInputsCard : Claim7 := { stood := { row := aggregateInputsRow, standIns := [], harness := (true, "2892d688aaecf9b7abd6ac903fc87ce7b01a7e3f4cee54f07edea509e459137d"), looks := false }, kinds := [], alts := [], laidByText := true, laidKinds := [.widerDeep], laidTests := true, laidLooks := .later }
def AggregateInputsCardSaid : Prop := Claim7.holds Tryd.pinned (.plain (OpenSpec.ofChange aggregateInputsSpec)) aggregateInputsCard

/-- THE TIED CARD OF 'attestorlaw32.AggregateJoins'. -/
def aggregateJoinsCard : Claim7 := { stood := { row := aggregateJoinsRow, standIns := [], harness := (true, "2892d688aaecf9b7abd6ac903fc87ce7b01a7e3f4cee54f07edea509e459137d"), looks := false }, kinds := [], alts := [], laidByText := true, laidKinds := [.widerDeep], laidTests := true, laidLooks := .later }
def AggregateJoinsCardSaid : Prop := Claim7.holds Tryd.pinned (.plain (OpenSpec.ofChange aggregateJoinsSpec)) aggregateJoinsCard

/-- THE TIED CARD OF 'attestorlaw32.AggregateRuns'. -/
def aggregateRunsCard : Claim7 := { stood := { row := aggregateRunsRow, standIns := [], harness := (true, "2892d688aaecf9b7abd6ac903fc87ce7b01a7e3f4cee54f07edea509e459137d"), looks := false }, kinds := [], alts := [], laidByText := true, laidKinds := [.widerDeep], laidTests := true, laidLooks := .later }
def AggregateRunsCardSaid : Prop := Claim7.holds Tryd.pinned (.plain (OpenSpec.ofChange aggregateRunsSpec)) aggregateRunsCard

/-- THE SECOND FORM's CARD OF 'attestorlaw32.AggregateInputs'. -/
def aggregateInputsUptoCard : Claim7 := { stood := { row := aggregateInputsUptoRow, standIns := [], harness := (true, "2892d688aaecf9b7abd6ac903fc87ce7b01a7e3f4cee54f07edea509e459137d"), looks := false }, kinds := [], alts := [], laidByText := true, laidKinds := [.widerDeep], laidTests := true, laidLooks := .later }
def AggregateInputsUptoCardSaid : Prop := Claim7.holds Tryd.pinned (.plain (OpenSpec.upto aggregateInputsSpec)) aggregateInputsUptoCard

/-- THE SECOND FORM's CARD OF 'attestorlaw32.AggregateJoins'. -/
def aggregateJoinsUptoCard : Claim7 := { stood := { row := aggregateJoinsUptoRow, standIns := [], harness := (true, "2892d688aaecf9b7abd6ac903fc87ce7b01a7e3f4cee54f07edea509e459137d"), looks := false }, kinds := [], alts := [], laidByText := true, laidKinds := [.widerDeep], laidTests := true, laidLooks := .later }
def AggregateJoinsUptoCardSaid : Prop := Claim7.holds Tryd.pinned (.plain (OpenSpec.upto aggregateJoinsSpec)) aggregateJoinsUptoCard

/-- THE SECOND FORM's CARD OF 'attestorlaw32.AggregateRuns'. -/
def aggregateRunsUptoCard : Claim7 := { stood := { row := aggregateRunsUptoRow, standIns := [], harness := (true, "2892d688aaecf9b7abd6ac903fc87ce7b01a7e3f4cee54f07edea509e459137d"), looks := false }, kinds := [], alts := [], laidByText := true, laidKinds := [.widerDeep], laidTests := true, laidLooks := .later }
def AggregateRunsUptoCardSaid : Prop := Claim7.holds Tryd.pinned (.plain (OpenSpec.upto aggregateRunsSpec)) aggregateRunsUptoCard
end Rows
end Go.Proofs.YticfndhcbjcklaaDoor
