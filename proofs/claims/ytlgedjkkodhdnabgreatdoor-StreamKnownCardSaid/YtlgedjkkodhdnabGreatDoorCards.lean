/-
  DERIVED. GIVEN WITH THE SEED: THE CARDS: each row of YtlgedjkkodhdnabGreatDoorRows.lean that lists a variable, with what it lists TIED to the program's text (the seventh form; the later family's looks); each row that meets fmt, with fmt's text TOLD by the authors' own Lean function (tested against real Go, not proved from fmt's source: count such statements apart). THE CARD IS WHAT COUNTS. Prove the row's statement (the work); the ties are given (YtlgedjkkodhdnabGreatDoorTie.lean); close each card by the builder's one call (the guide's Derived/Test/ToyasCard.lean, 'card_holds'). Laid BY PROGRAM, IN A SANDBOX (cutbox-door.mjs). By AI agents, Wed Nov 11 2026. No macro, syntax, notation, axiom, sorry.
-/
import Derived.Test.YtlgedjkkodhdnabGreatDoorRows
import GoSem.ClaimSeven
namespace Go.Proofs.YtlgedjkkodhdnabGreatDoor
namespace Rows

/-- THE TIED CARD OF 'attestorlaw19.StreamKnown'. -/
def streamKnownCard : Claim7 := { stood := { row := streamKnownRow, standIns := [], harness := (true, "2951b435777116b2e716a19a74370884245b4786bb9288d461d0c9f3f7dd2f2c"), looks := false }, kinds := [], alts := [], laidByText := true, laidKinds := [.widerDeep, .data, .data], laidTests := true, laidLooks := .later }
def StreamKnownCardSaid : Prop := Claim7.holds Tryz.pinned (.plain (OpenSpec.ofChange streamKnownSpec)) streamKnownCard

/-- THE SECOND FORM's CARD OF 'attestorlaw19.StreamKnown'. -/
def streamKnownUptoCard : Claim7 := { stood := { row := streamKnownUptoRow, standIns := [], harness := (true, "2951b435777116b2e716a19a74370884245b4786bb9288d461d0c9f3f7dd2f2c"), looks := false }, kinds := [], alts := [], laidByText := true, laidKinds := [.widerDeep, .data, .data], laidTests := true, laidLooks := .later }
def StreamKnownUptoCardSaid : Prop := Claim7.holds Tryz.pinned (.plain (OpenSpec.upto streamKnownSpec)) streamKnownUptoCard
end Rows
end Go.Proofs.YtlgedjkkodhdnabGreatDoor
