/-
  DERIVED. GIVEN WITH THE SEED: THE PROGRAM's TIES (one call each: nine closed facts by the kernel) AND EACH ROW's TIE, after the 31st guide's Derived/Test/Toyas{Tie, Card}.lean. No idea stands in it: it is a product of the set-up. Laid BY PROGRAM, IN A SANDBOX (cutbox-door.mjs). By AI agents, Wed Nov 11 2026. No macro, syntax, notation, axiom, sorry.
-/
import Derived.Test.YtkneccbdfpnnlaaGreatDoorRows
import Derived.LaidByTextLater
import Derived.SevenTiedAt
import Derived.LaidSub
import Derived.LaidOnce
namespace Go.Proofs.YtkneccbdfpnnlaaGreatDoor
open Go
set_option maxRecDepth 100000
theorem seatTie1 : Tryz.prog.laidByTextLater [("attestor/field.fields", Rows.laid_attestor_field_fields), ("attestor/isa.uses", Rows.laid_attestor_isa_uses)] [.widerDeep, .data] true :=
  Program.laidByTextLater_by_one 26 8 21 (by kernel_rfl) (by kernel_rfl) (by kernel_rfl) (by kernel_rfl) (by kernel_rfl) (by kernel_rfl) (fun _ _ => by kernel_rfl)
theorem noOwnUnsafe : Tryz.pinned.checked.prog.headLifts.contains "ownunsafe" = false := by kernel_rfl
theorem tie : Tryz.prog.laidByTextLater [("attestor/field.fields", Rows.laid_attestor_field_fields), ("attestor/isa.uses", Rows.laid_attestor_isa_uses)] [.widerDeep, .data] true :=
  Program.laidByTextLater.sub seatTie1 ["attestor/field.fields", "attestor/isa.uses"] (by kernel_rfl) (by kernel_rfl)
theorem traceColumns_row_tie : Rows.traceColumnsRow.laidByTextAt .later Tryz.pinned [.widerDeep, .data] true :=
  OpenClaim.laidByTextAt_later rfl rfl tie noOwnUnsafe
theorem traceColumnsUpto_row_tie : Rows.traceColumnsUptoRow.laidByTextAt .later Tryz.pinned [.widerDeep, .data] true :=
  OpenClaim.laidByTextAt_later rfl rfl tie noOwnUnsafe
end Go.Proofs.YtkneccbdfpnnlaaGreatDoor
