/-
  DERIVED. GIVEN WITH THE SEED: THE CARDS: each row of YtebbnkahklbhiaaGreatDoorRows.lean that lists a variable, with what it lists TIED to the program's text (the seventh form; the later family's looks); each row that meets fmt, with fmt's text TOLD by the authors' own Lean function (tested against real Go, not proved from fmt's source: count such statements apart). THE CARD IS WHAT COUNTS. Prove the row's statement (the work); the ties are given (YtebbnkahklbhiaaGreatDoorTie.lean); close each card by the builder's one call (the guide's Derived/Test/ToyasCard.lean, 'card_holds'). Laid BY PROGRAM, IN A SANDBOX (cutbox-door.mjs). By AI agents, Wed Nov 11 2026. No macro, syntax, notation, axiom, sorry.
-/
import Derived.Test.YtebbnkahklbhiaaGreatDoorRows
import GoSem.ClaimSeven
namespace Go.Proofs.YtebbnkahklbhiaaGreatDoor
namespace Rows

/-- THE TIED CARD OF 'attestorlaw16.ProverKeys'. -/
def proverKeysCard : Claim7 := { stood := { row := proverKeysRow, standIns := [], harness := (true, "f50d068e5327bc484321a5fa4d1f5112cfa16cd4108617957c0ffc159ee2fd57"), looks := false }, kinds := [], alts := [], laidByText := true, laidKinds := [.widerDeep, .data, .data], laidTests := true, laidLooks := .later }
def ProverKeysCardSaid : Prop := Claim7.holds Tryz.pinned (.plain (OpenSpec.ofChange proverKeysSpec)) proverKeysCard

/-- THE TIED CARD OF 'attestorlaw16.ProverProves'. -/
def proverProvesCard : Claim7 := { stood := { row := proverProvesRow, standIns := [], harness := (true, "f50d068e5327bc484321a5fa4d1f5112cfa16cd4108617957c0ffc159ee2fd57"), looks := false }, kinds := [], alts := [], laidByText := true, laidKinds := [.widerDeep, .data, .data], laidTests := true, laidLooks := .later }
def ProverProvesCardSaid : Prop := Claim7.holds Tryz.pinned (.plain (OpenSpec.ofChange proverProvesSpec)) proverProvesCard

/-- THE TIED CARD OF 'attestorlaw16.ProverKnown'. -/
def proverKnownCard : Claim7 := { stood := { row := proverKnownRow, standIns := [], harness := (true, "f50d068e5327bc484321a5fa4d1f5112cfa16cd4108617957c0ffc159ee2fd57"), looks := false }, kinds := [], alts := [], laidByText := true, laidKinds := [.widerDeep, .data, .data], laidTests := true, laidLooks := .later }
def ProverKnownCardSaid : Prop := Claim7.holds Tryz.pinned (.plain (OpenSpec.ofChange proverKnownSpec)) proverKnownCard

/-- THE TIED CARD OF 'attestorlaw16.ProverReads'. -/
def proverReadsCard : Claim7 := { stood := { row := proverReadsRow, standIns := [], harness := (true, "f50d068e5327bc484321a5fa4d1f5112cfa16cd4108617957c0ffc159ee2fd57"), looks := false }, kinds := [], alts := [], laidByText := true, laidKinds := [.widerDeep, .data, .data], laidTests := true, laidLooks := .later }
def ProverReadsCardSaid : Prop := Claim7.holds Tryz.pinned (.plain (OpenSpec.ofChange proverReadsSpec)) proverReadsCard

/-- THE TIED CARD OF 'attestorlaw16.ProverKeyed'. -/
def proverKeyedCard : Claim7 := { stood := { row := proverKeyedRow, standIns := [], harness := (true, "f50d068e5327bc484321a5fa4d1f5112cfa16cd4108617957c0ffc159ee2fd57"), looks := false }, kinds := [], alts := [], laidByText := true, laidKinds := [.widerDeep, .data, .data], laidTests := true, laidLooks := .later }
def ProverKeyedCardSaid : Prop := Claim7.holds Tryz.pinned (.plain (OpenSpec.ofChange proverKeyedSpec)) proverKeyedCard

/-- THE TIED CARD OF 'attestorlaw18.VerifierKnown'. -/
def verifierKnownCard : Claim7 := { stood := { row := verifierKnownRow, standIns := [], harness := (true, "f50d068e5327bc484321a5fa4d1f5112cfa16cd4108617957c0ffc159ee2fd57"), looks := false }, kinds := [], alts := [], laidByText := true, laidKinds := [.widerDeep, .data, .data], laidTests := true, laidLooks := .later }
def VerifierKnownCardSaid : Prop := Claim7.holds Tryz.pinned (.plain (OpenSpec.ofChange verifierKnownSpec)) verifierKnownCard

/-- THE SECOND FORM's CARD OF 'attestorlaw16.ProverKeys'. -/
def proverKeysUptoCard : Claim7 := { stood := { row := proverKeysUptoRow, standIns := [], harness := (true, "f50d068e5327bc484321a5fa4d1f5112cfa16cd4108617957c0ffc159ee2fd57"), looks := false }, kinds := [], alts := [], laidByText := true, laidKinds := [.widerDeep, .data, .data], laidTests := true, laidLooks := .later }
def ProverKeysUptoCardSaid : Prop := Claim7.holds Tryz.pinned (.plain (OpenSpec.upto proverKeysSpec)) proverKeysUptoCard

/-- THE SECOND FORM's CARD OF 'attestorlaw16.ProverProves'. -/
def proverProvesUptoCard : Claim7 := { stood := { row := proverProvesUptoRow, standIns := [], harness := (true, "f50d068e5327bc484321a5fa4d1f5112cfa16cd4108617957c0ffc159ee2fd57"), looks := false }, kinds := [], alts := [], laidByText := true, laidKinds := [.widerDeep, .data, .data], laidTests := true, laidLooks := .later }
def ProverProvesUptoCardSaid : Prop := Claim7.holds Tryz.pinned (.plain (OpenSpec.upto proverProvesSpec)) proverProvesUptoCard

/-- THE SECOND FORM's CARD OF 'attestorlaw16.ProverKnown'. -/
def proverKnownUptoCard : Claim7 := { stood := { row := proverKnownUptoRow, standIns := [], harness := (true, "f50d068e5327bc484321a5fa4d1f5112cfa16cd4108617957c0ffc159ee2fd57"), looks := false }, kinds := [], alts := [], laidByText := true, laidKinds := [.widerDeep, .data, .data], laidTests := true, laidLooks := .later }
def ProverKnownUptoCardSaid : Prop := Claim7.holds Tryz.pinned (.plain (OpenSpec.upto proverKnownSpec)) proverKnownUptoCard

/-- THE SECOND FORM's CARD OF 'attestorlaw16.ProverReads'. -/
def proverReadsUptoCard : Claim7 := { stood := { row := proverReadsUptoRow, standIns := [], harness := (true, "f50d068e5327bc484321a5fa4d1f5112cfa16cd4108617957c0ffc159ee2fd57"), looks := false }, kinds := [], alts := [], laidByText := true, laidKinds := [.widerDeep, .data, .data], laidTests := true, laidLooks := .later }
def ProverReadsUptoCardSaid : Prop := Claim7.holds Tryz.pinned (.plain (OpenSpec.upto proverReadsSpec)) proverReadsUptoCard

/-- THE SECOND FORM's CARD OF 'attestorlaw16.ProverKeyed'. -/
def proverKeyedUptoCard : Claim7 := { stood := { row := proverKeyedUptoRow, standIns := [], harness := (true, "f50d068e5327bc484321a5fa4d1f5112cfa16cd4108617957c0ffc159ee2fd57"), looks := false }, kinds := [], alts := [], laidByText := true, laidKinds := [.widerDeep, .data, .data], laidTests := true, laidLooks := .later }
def ProverKeyedUptoCardSaid : Prop := Claim7.holds Tryz.pinned (.plain (OpenSpec.upto proverKeyedSpec)) proverKeyedUptoCard

/-- THE SECOND FORM's CARD OF 'attestorlaw18.VerifierKnown'. -/
def verifierKnownUptoCard : Claim7 := { stood := { row := verifierKnownUptoRow, standIns := [], harness := (true, "f50d068e5327bc484321a5fa4d1f5112cfa16cd4108617957c0ffc159ee2fd57"), looks := false }, kinds := [], alts := [], laidByText := true, laidKinds := [.widerDeep, .data, .data], laidTests := true, laidLooks := .later }
def VerifierKnownUptoCardSaid : Prop := Claim7.holds Tryz.pinned (.plain (OpenSpec.upto verifierKnownSpec)) verifierKnownUptoCard
end Rows
end Go.Proofs.YtebbnkahklbhiaaGreatDoor
