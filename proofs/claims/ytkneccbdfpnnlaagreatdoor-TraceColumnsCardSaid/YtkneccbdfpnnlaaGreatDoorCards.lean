/-
  DERIVED. GIVEN WITH THE SEED: THE CARDS: each row of YtkneccbdfpnnlaaGreatDoorRows.lean that lists a variable, with what it lists TIED to the program's text (the seventh form; the later family's looks); each row that meets fmt, with fmt's text TOLD by the authors' own Lean function (tested against real Go, not proved from fmt's source: count such statements apart). THE CARD IS WHAT COUNTS. Prove the row's statement (the work); the ties are given (YtkneccbdfpnnlaaGreatDoorTie.lean); close each card by the builder's one call (the guide's Derived/Test/ToyasCard.lean, 'card_holds'). Laid BY PROGRAM, IN A SANDBOX (cutbox-door.mjs). By AI agents, Wed Nov 11 2026. No macro, syntax, notation, axiom, sorry.
-/
import Derived.Test.YtkneccbdfpnnlaaGreatDoorRows
import GoSem.ClaimSeven
namespace Go.Proofs.YtkneccbdfpnnlaaGreatDoor
namespace Rows

/-- THE TIED CARD OF 'attestorlaw29.TraceColumns'. -/
def traceColumnsCard : Claim7 := { stood := { row := traceColumnsRow, standIns := [], harness := (true, "cacbf53785588127729d5d615398e1cc81a2cb4bda9380bd20e311e40c0ea2d7"), looks := false }, kinds := [], alts := [], laidByText := true, laidKinds := [.widerDeep, .data], laidTests := true, laidLooks := .later }
def TraceColumnsCardSaid : Prop := Claim7.holds Tryz.pinned (.plain (OpenSpec.ofChange traceColumnsSpec)) traceColumnsCard

/-- THE SECOND FORM's CARD OF 'attestorlaw29.TraceColumns'. -/
def traceColumnsUptoCard : Claim7 := { stood := { row := traceColumnsUptoRow, standIns := [], harness := (true, "cacbf53785588127729d5d615398e1cc81a2cb4bda9380bd20e311e40c0ea2d7"), looks := false }, kinds := [], alts := [], laidByText := true, laidKinds := [.widerDeep, .data], laidTests := true, laidLooks := .later }
def TraceColumnsUptoCardSaid : Prop := Claim7.holds Tryz.pinned (.plain (OpenSpec.upto traceColumnsSpec)) traceColumnsUptoCard
end Rows
end Go.Proofs.YtkneccbdfpnnlaaGreatDoor
