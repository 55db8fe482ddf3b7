/-
  DERIVED. GIVEN WITH THE SEED: THE CARDS: each row of YtgknegdikgdfeaaDoorRows.lean that lists a variable, with what it lists TIED to the program's text (the seventh form; the later family's looks); each row that meets fmt, with fmt's text TOLD by the authors' own Lean function (tested against real Go, not proved from fmt's source: count such statements apart). THE CARD IS WHAT COUNTS. Prove the row's statement (the work); the ties are given (YtgknegdikgdfeaaDoorTie.lean); close each card by the builder's one call (the guide's Derived/Test/ToyasCard.lean, 'card_holds'). Laid BY PROGRAM, IN A SANDBOX (cutbox-door.mjs). By AI agents, Wed Nov 11 2026. No macro, syntax, notation, axiom, sorry.
-/
import Derived.Test.YtgknegdikgdfeaaDoorRows
import GoSem.ClaimSeven
namespace Go.Proofs.YtgknegdikgdfeaaDoor
namespace Rows

/-- THE TIED CARD OF 'attestorlaw12.MonoSums'. -/
def monoSumsCard : Claim7 := { stood := { row := monoSumsRow, standIns := [], harness := (true, "a423a639b9cbe2577563bbde5bdc1b10d8bc14fab7d6731c690f3b0ab594f1e6"), looks := false }, kinds := [], alts := [], laidByText := true, laidKinds := [.widerDeep, .data, .data, .data], laidTests := true, laidLooks := .later }
def MonoSumsCardSaid : Prop := Claim7.holds Tryd.pinned (.plain (OpenSpec.ofChange monoSumsSpec)) monoSumsCard

/-- THE TIED CARD OF 'attestorlaw12.MonoRing'. -/
def monoRingCard : Claim7 := { stood := { row := monoRingRow, standIns := [], harness := (true, "a423a639b9cbe2577563bbde5bdc1b10d8bc14fab7d6731c690f3b0ab594f1e6"), looks := false }, kinds := [], alts := [], laidByText := true, laidKinds := [.widerDeep, .data, .data, .data], laidTests := true, laidLooks := .later }
def MonoRingCardSaid : Prop := Claim7.holds Tryd.pinned (.plain (OpenSpec.ofChange monoRingSpec)) monoRingCard

/-- THE TIED CARD OF 'attestorlaw12.MonoValues'. -/
def monoValuesCard : Claim7 := { stood := { row := monoValuesRow, standIns := [], harness := (true, "a423a639b9cbe2577563bbde5bdc1b10d8bc14fab7d6731c690f3b0ab594f1e6"), looks := false }, kinds := [], alts := [], laidByText := true, laidKinds := [.widerDeep, .data, .data, .data], laidTests := true, laidLooks := .later }
def MonoValuesCardSaid : Prop := Claim7.holds Tryd.pinned (.plain (OpenSpec.ofChange monoValuesSpec)) monoValuesCard

/-- THE TIED CARD OF 'attestorlaw12.MonoStable'. -/
def monoStableCard : Claim7 := { stood := { row := monoStableRow, standIns := [], harness := (true, "a423a639b9cbe2577563bbde5bdc1b10d8bc14fab7d6731c690f3b0ab594f1e6"), looks := false }, kinds := [], alts := [], laidByText := true, laidKinds := [.widerDeep, .data, .data, .data], laidTests := true, laidLooks := .later }
def MonoStableCardSaid : Prop := Claim7.holds Tryd.pinned (.plain (OpenSpec.ofChange monoStableSpec)) monoStableCard

/-- THE TIED CARD OF 'attestorlaw12.MonoKnown'. -/
def monoKnownCard : Claim7 := { stood := { row := monoKnownRow, standIns := [], harness := (true, "a423a639b9cbe2577563bbde5bdc1b10d8bc14fab7d6731c690f3b0ab594f1e6"), looks := false }, kinds := [], alts := [], laidByText := true, laidKinds := [.widerDeep, .data, .data, .data], laidTests := true, laidLooks := .later }
def MonoKnownCardSaid : Prop := Claim7.holds Tryd.pinned (.plain (OpenSpec.ofChange monoKnownSpec)) monoKnownCard

/-- THE SECOND FORM's CARD OF 'attestorlaw12.MonoSums'. -/
def monoSumsUptoCard : Claim7 := { stood := { row := monoSumsUptoRow, standIns := [], harness := (true, "a423a639b9cbe2577563bbde5bdc1b10d8bc14fab7d6731c690f3b0ab594f1e6"), looks := false }, kinds := [], alts := [], laidByText := true, laidKinds := [.widerDeep, .data, .data, .data], laidTests := true, laidLooks := .later }
def MonoSumsUptoCardSaid : Prop := Claim7.holds Tryd.pinned (.plain (OpenSpec.upto monoSumsSpec)) monoSumsUptoCard

/-- THE SECOND FORM's CARD OF 'attestorlaw12.MonoRing'. -/
def monoRingUptoCard : Claim7 := { stood := { row := monoRingUptoRow, standIns := [], harness := (true, "a423a639b9cbe2577563bbde5bdc1b10d8bc14fab7d6731c690f3b0ab594f1e6"), looks := false }, kinds := [], alts := [], laidByText := true, laidKinds := [.widerDeep, .data, .data, .data], laidTests := true, laidLooks := .later }
def MonoRingUptoCardSaid : Prop := Claim7.holds Tryd.pinned (.plain (OpenSpec.upto monoRingSpec)) monoRingUptoCard

/-- THE SECOND FORM's CARD OF 'attestorlaw12.MonoValues'. -/
def monoValuesUptoCard : Claim7 := { stood := { row := monoValuesUptoRow, standIns := [], harness := (true, "a423a639b9cbe2577563bbde5bdc1b10d8bc14fab7d6731c690f3b0ab594f1e6"), looks := false }, kinds := [], alts := [], laidByText := true, laidKinds := [.widerDeep, .data, .data, .data], laidTests := true, laidLooks := .later }
def MonoValuesUptoCardSaid : Prop := Claim7.holds Tryd.pinned (.plain (OpenSpec.upto monoValuesSpec)) monoValuesUptoCard

/-- THE SECOND FORM's CARD OF 'attestorlaw12.MonoStable'. -/
def monoStableUptoCard : Claim7 := { stood := { row := monoStableUptoRow, standIns := [], harness := (true, "a423a639b9cbe2577563bbde5bdc1b10d8bc14fab7d6731c690f3b0ab594f1e6"), looks := false }, kinds := [], alts := [], laidByText := true, laidKinds := [.widerDeep, .data, .data, .data], laidTests := true, laidLooks := .later }
def MonoStableUptoCardSaid : Prop := Claim7.holds Tryd.pinned (.plain (OpenSpec.upto monoStableSpec)) monoStableUptoCard

/-- THE SECOND FORM's CARD OF 'attestorlaw12.MonoKnown'. -/
def monoKnownUptoCard : Claim7 := { stood := { row := monoKnownUptoRow, standIns := [], harness := (true, "a423a639b9cbe2577563bbde5bdc1b10d8bc14fab7d6731c690f3b0ab594f1e6"), looks := false }, kinds := [], alts := [], laidByText := true, laidKinds := [.widerDeep, .data, .data, .data], laidTests := true, laidLooks := .later }
def MonoKnownUptoCardSaid : Prop := Claim7.holds Tryd.pinned (.plain (OpenSpec.upto monoKnownSpec)) monoKnownUptoCard
end Rows
end Go.Proofs.YtgknegdikgdfeaaDoor
