/-
  NARROWER THAN 'FOR EVERY INPUT', by the rows' own cells (each row's printed sentence says how): ProverKeys: laid · ProverProves: laid · ProverKnown: laid · ProverReads: laid · ProverKeyed: laid · VerifierKnown: laid.
  DERIVED. THE GIVEN ROWS OF THIS SEAT. 6 by the template 'for every input the law returns true; each argument reads behind the call as it read before'; 0 by the template 'total and deterministic' (their statements: YtebbnkahklbhiaaGreatDoorTotals.lean).
  GIVEN WITH THE SEED: the statements are not yours to turn. If you find one false, say at which input.
  Laid BY PROGRAM, IN A SANDBOX (cutbox-rows.mjs): the forced cells as the released guide's own fill.sh prints them over the translation d951cec82f70cfc2… (all of the seat's roots in one cut). By AI agents, Wed Nov 11 2026. No macro, syntax, notation, axiom, sorry.
-/
import Derived.Test.YtebbnkahklbhiaaGreatDoorChecked
import GoSem.Claim
import GoSem.ClaimJoined
import GoSem.ClaimMapViews
import Derived.JoinedTies
import Derived.KernelRfl
namespace Go.Proofs.YtebbnkahklbhiaaGreatDoor
/- THE CELL 'sum', in the pinned program and in every row, IS THE sha256 OF THE DUMP (.gsa) THAT YtebbnkahklbhiaaGreatDoorProg.lean LOADS. Nothing in Lean hashes anything: it is a label: what it is worth is what the hold of that sum in a sandbox is worth. -/
noncomputable def Tryz.pinned : Pinned := { name := "ytebbnkahklbhiaagreatdoor", sum := "d951cec82f70cfc28d9bb964270cd89821824e521d2fa22770652aa06987e808", checked := Tryz.checked }
namespace Rows
def none {H : Type} : Left H := { results := [], args := [] }

/- WHAT THE LISTED PACKAGE-LEVEL VARIABLES READ AS WHEN THE CALL BEGINS. Each datum BY PROGRAM (the guide's laid-datum.mjs) off the statement by which the dump's own 'gosem.cut.vars' lays the variable. In a bare row this is a premise. The card (YtebbnkahklbhiaaGreatDoorCards.lean) ties it to the program's text. -/
def laid_attestor_field_fields {H : Type} : DataW H := .agg [.agg [.lit (.int .u64 97), .lit (.int .u64 5), .lit (.int .i64 5), .lit (.int .i64 5), .slice [.lit (.int .u64 3)] []], .agg [.lit (.int .u64 257), .lit (.int .u64 3), .lit (.int .i64 8), .lit (.int .i64 3), .nil], .agg [.lit (.int .u64 12289), .lit (.int .u64 11), .lit (.int .i64 12), .lit (.int .i64 5), .slice [.lit (.int .u64 3)] []], .agg [.lit (.int .u64 998244353), .lit (.int .u64 3), .lit (.int .i64 23), .lit (.int .i64 3), .slice [.lit (.int .u64 7), .lit (.int .u64 17)] []]]
def laid_math_bits_deBruijn32tab {H : Type} : DataW H := .agg [.lit (.int .u8 0), .lit (.int .u8 1), .lit (.int .u8 28), .lit (.int .u8 2), .lit (.int .u8 29), .lit (.int .u8 14), .lit (.int .u8 24), .lit (.int .u8 3), .lit (.int .u8 30), .lit (.int .u8 22), .lit (.int .u8 20), .lit (.int .u8 15), .lit (.int .u8 25), .lit (.int .u8 17), .lit (.int .u8 4), .lit (.int .u8 8), .lit (.int .u8 31), .lit (.int .u8 27), .lit (.int .u8 13), .lit (.int .u8 23), .lit (.int .u8 21), .lit (.int .u8 19), .lit (.int .u8 16), .lit (.int .u8 7), .lit (.int .u8 26), .lit (.int .u8 12), .lit (.int .u8 18), .lit (.int .u8 6), .lit (.int .u8 11), .lit (.int .u8 5), .lit (.int .u8 10), .lit (.int .u8 9)]
def laid_math_bits_deBruijn64tab {H : Type} : DataW H := .agg [.lit (.int .u8 0), .lit (.int .u8 1), .lit (.int .u8 56), .lit (.int .u8 2), .lit (.int .u8 57), .lit (.int .u8 49), .lit (.int .u8 28), .lit (.int .u8 3), .lit (.int .u8 61), .lit (.int .u8 58), .lit (.int .u8 42), .lit (.int .u8 50), .lit (.int .u8 38), .lit (.int .u8 29), .lit (.int .u8 17), .lit (.int .u8 4), .lit (.int .u8 62), .lit (.int .u8 47), .lit (.int .u8 59), .lit (.int .u8 36), .lit (.int .u8 45), .lit (.int .u8 43), .lit (.int .u8 51), .lit (.int .u8 22), .lit (.int .u8 53), .lit (.int .u8 39), .lit (.int .u8 33), .lit (.int .u8 30), .lit (.int .u8 24), .lit (.int .u8 18), .lit (.int .u8 12), .lit (.int .u8 5), .lit (.int .u8 63), .lit (.int .u8 55), .lit (.int .u8 48), .lit (.int .u8 27), .lit (.int .u8 60), .lit (.int .u8 41), .lit (.int .u8 37), .lit (.int .u8 16), .lit (.int .u8 46), .lit (.int .u8 35), .lit (.int .u8 44), .lit (.int .u8 21), .lit (.int .u8 52), .lit (.int .u8 32), .lit (.int .u8 23), .lit (.int .u8 11), .lit (.int .u8 54), .lit (.int .u8 26), .lit (.int .u8 40), .lit (.int .u8 15), .lit (.int .u8 34), .lit (.int .u8 20), .lit (.int .u8 31), .lit (.int .u8 10), .lit (.int .u8 25), .lit (.int .u8 14), .lit (.int .u8 19), .lit (.int .u8 9), .lit (.int .u8 13), .lit (.int .u8 8), .lit (.int .u8 7), .lit (.int .u8 6)]

/-- 'attestorlaw16.ProverKeys': WHATEVER THE INPUT: true; the input reads as it did. -/
def proverKeysSpec : ChangeSpec := { name := "proverKeys", fn := fun _ => fun
  | [d1, d2] => { results := [.lit (.bool true)], args := [d1, d2] }
  | _ => none }
def proverKeysRow : OpenClaim := { program := "ytebbnkahklbhiaagreatdoor", sum := "d951cec82f70cfc28d9bb964270cd89821824e521d2fa22770652aa06987e808", func := "attestor/attestorlaw16.ProverKeys", spec := "proverKeys", unfollowed := true, recurses := true, named := ["attestor/field.fields", "math/bits.deBruijn32tab", "math/bits.deBruijn64tab"], apart := false, laid := [("attestor/field.fields", laid_attestor_field_fields), ("math/bits.deBruijn32tab", laid_math_bits_deBruijn32tab), ("math/bits.deBruijn64tab", laid_math_bits_deBruijn64tab)] }
def ProverKeysSaid : Prop := proverKeysRow.holds Tryz.pinned (OpenSpec.ofChange proverKeysSpec)

/-- ITS FALSE NEIGHBOUR: 'it returns false'. Refute it at one input. -/
def proverKeysWrong : ChangeSpec := { name := "proverKeys", fn := fun _ => fun
  | [d1, d2] => { results := [.lit (.bool false)], args := [d1, d2] }
  | _ => none }
def ProverKeysWrongFalsely : Prop := proverKeysRow.holds Tryz.pinned (OpenSpec.ofChange proverKeysWrong)

/-- 'attestorlaw16.ProverProves': WHATEVER THE INPUT: true; the input reads as it did. -/
def proverProvesSpec : ChangeSpec := { name := "proverProves", fn := fun _ => fun
  | [d1, d2, d3] => { results := [.lit (.bool true)], args := [d1, d2, d3] }
  | _ => none }
def proverProvesRow : OpenClaim := { program := "ytebbnkahklbhiaagreatdoor", sum := "d951cec82f70cfc28d9bb964270cd89821824e521d2fa22770652aa06987e808", func := "attestor/attestorlaw16.ProverProves", spec := "proverProves", unfollowed := true, recurses := true, named := ["attestor/field.fields", "math/bits.deBruijn32tab", "math/bits.deBruijn64tab"], apart := false, laid := [("attestor/field.fields", laid_attestor_field_fields), ("math/bits.deBruijn32tab", laid_math_bits_deBruijn32tab), ("math/bits.deBruijn64tab", laid_math_bits_deBruijn64tab)] }
def ProverProvesSaid : Prop := proverProvesRow.holds Tryz.pinned (OpenSpec.ofChange proverProvesSpec)

/-- ITS FALSE NEIGHBOUR: 'it returns false'. Refute it at one input. -/
def proverProvesWrong : ChangeSpec := { name := "proverProves", fn := fun _ => fun
  | [d1, d2, d3] => { results := [.lit (.bool false)], args := [d1, d2, d3] }
  | _ => none }
def ProverProvesWrongFalsely : Prop := proverProvesRow.holds Tryz.pinned (OpenSpec.ofChange proverProvesWrong)

/-- 'attestorlaw16.ProverKnown': WHATEVER THE INPUT: true; the input reads as it did. -/
def proverKnownSpec : ChangeSpec := { name := "proverKnown", fn := fun _ => fun
  | [] => { results := [.lit (.bool true)], args := [] }
  | _ => none }
def proverKnownRow : OpenClaim := { program := "ytebbnkahklbhiaagreatdoor", sum := "d951cec82f70cfc28d9bb964270cd89821824e521d2fa22770652aa06987e808", func := "attestor/attestorlaw16.ProverKnown", spec := "proverKnown", unfollowed := true, recurses := true, named := ["attestor/field.fields", "math/bits.deBruijn32tab", "math/bits.deBruijn64tab"], apart := false, laid := [("attestor/field.fields", laid_attestor_field_fields), ("math/bits.deBruijn32tab", laid_math_bits_deBruijn32tab), ("math/bits.deBruijn64tab", laid_math_bits_deBruijn64tab)] }
def ProverKnownSaid : Prop := proverKnownRow.holds Tryz.pinned (OpenSpec.ofChange proverKnownSpec)

/-- ITS FALSE NEIGHBOUR: 'it returns false'. Refute it at one input. -/
def proverKnownWrong : ChangeSpec := { name := "proverKnown", fn := fun _ => fun
  | [] => { results := [.lit (.bool false)], args := [] }
  | _ => none }
def ProverKnownWrongFalsely : Prop := proverKnownRow.holds Tryz.pinned (OpenSpec.ofChange proverKnownWrong)

/-- 'attestorlaw16.ProverReads': WHATEVER THE INPUT: true; the input reads as it did. -/
def proverReadsSpec : ChangeSpec := { name := "proverReads", fn := fun _ => fun
  | [d1, d2] => { results := [.lit (.bool true)], args := [d1, d2] }
  | _ => none }
def proverReadsRow : OpenClaim := { program := "ytebbnkahklbhiaagreatdoor", sum := "d951cec82f70cfc28d9bb964270cd89821824e521d2fa22770652aa06987e808", func := "attestor/attestorlaw16.ProverReads", spec := "proverReads", unfollowed := true, recurses := true, named := ["attestor/field.fields", "math/bits.deBruijn32tab", "math/bits.deBruijn64tab"], apart := false, laid := [("attestor/field.fields", laid_attestor_field_fields), ("math/bits.deBruijn32tab", laid_math_bits_deBruijn32tab), ("math/bits.deBruijn64tab", laid_math_bits_deBruijn64tab)] }
def ProverReadsSaid : Prop := proverReadsRow.holds Tryz.pinned (OpenSpec.ofChange proverReadsSpec)

/-- ITS FALSE NEIGHBOUR: 'it returns false'. Refute it at one input. -/
def proverReadsWrong : ChangeSpec := { name := "proverReads", fn := fun _ => fun
  | [d1, d2] => { results := [.lit (.bool false)], args := [d1, d2] }
  | _ => none }
def ProverReadsWrongFalsely : Prop := proverReadsRow.holds Tryz.pinned (OpenSpec.ofChange proverReadsWrong)

/-- 'attestorlaw16.ProverKeyed': WHATEVER THE INPUT: true; the input reads as it did. -/
def proverKeyedSpec : ChangeSpec := { name := "proverKeyed", fn := fun _ => fun
  | [d1, d2, d3] => { results := [.lit (.bool true)], args := [d1, d2, d3] }
  | _ => none }
def proverKeyedRow : OpenClaim := { program := "ytebbnkahklbhiaagreatdoor", sum := "d951cec82f70cfc28d9bb964270cd89821824e521d2fa22770652aa06987e808", func := "attestor/attestorlaw16.ProverKeyed", spec := "proverKeyed", unfollowed := true, recurses := true, named := ["attestor/field.fields", "math/bits.deBruijn32tab", "math/bits.deBruijn64tab"], apart := false, laid := [("attestor/field.fields", laid_attestor_field_fields), ("math/bits.deBruijn32tab", laid_math_bits_deBruijn32tab), ("math/bits.deBruijn64tab", laid_math_bits_deBruijn64tab)] }
def ProverKeyedSaid : Prop := proverKeyedRow.holds Tryz.pinned (OpenSpec.ofChange proverKeyedSpec)

/-- ITS FALSE NEIGHBOUR: 'it returns false'. Refute it at one input. -/
def proverKeyedWrong : ChangeSpec := { name := "proverKeyed", fn := fun _ => fun
  | [d1, d2, d3] => { results := [.lit (.bool false)], args := [d1, d2, d3] }
  | _ => none }
def ProverKeyedWrongFalsely : Prop := proverKeyedRow.holds Tryz.pinned (OpenSpec.ofChange proverKeyedWrong)

/-- 'attestorlaw18.VerifierKnown': WHATEVER THE INPUT: true; the input reads as it did. -/
def verifierKnownSpec : ChangeSpec := { name := "verifierKnown", fn := fun _ => fun
  | [] => { results := [.lit (.bool true)], args := [] }
  | _ => none }
def verifierKnownRow : OpenClaim := { program := "ytebbnkahklbhiaagreatdoor", sum := "d951cec82f70cfc28d9bb964270cd89821824e521d2fa22770652aa06987e808", func := "attestor/attestorlaw18.VerifierKnown", spec := "verifierKnown", unfollowed := true, recurses := true, named := ["attestor/field.fields", "math/bits.deBruijn32tab", "math/bits.deBruijn64tab"], apart := false, laid := [("attestor/field.fields", laid_attestor_field_fields), ("math/bits.deBruijn32tab", laid_math_bits_deBruijn32tab), ("math/bits.deBruijn64tab", laid_math_bits_deBruijn64tab)] }
def VerifierKnownSaid : Prop := verifierKnownRow.holds Tryz.pinned (OpenSpec.ofChange verifierKnownSpec)

/-- ITS FALSE NEIGHBOUR: 'it returns false'. Refute it at one input. -/
def verifierKnownWrong : ChangeSpec := { name := "verifierKnown", fn := fun _ => fun
  | [] => { results := [.lit (.bool false)], args := [] }
  | _ => none }
def VerifierKnownWrongFalsely : Prop := verifierKnownRow.holds Tryz.pinned (OpenSpec.ofChange verifierKnownWrong)

/- THE SECOND FORM. 'bulk': how many values and letters a reading holds, each counted each time it is reached (what is shared counts as often as it is met; a slice's spare places count too). A statement '..UptoSaid' is the law's where the arguments, and the package variables that the reading takes, are together of bulk at most 1048576: NARROWER than '..Said'. Prove '..Said' where nothing that the law and all that it calls make is longer than what came in: it says more and counts as full. Else prove '..UptoSaid'. A law counts once. -/
mutual
def uptoBulk {H : Type} : DataW H → Nat
  | .lit (.string bytes) => bytes.length + 1
  | .lit _ => 1
  | .nil => 1
  | .ptr d => uptoBulk d + 1
  | .slice elems spare => uptoBulkAll elems + uptoBulkAll spare + 1
  | .agg parts => uptoBulkAll parts + 1
  | .iface _ d => uptoBulk d + 1
  | .map entries => uptoBulkEntries entries + 1
  | .held _ => 1
def uptoBulkAll {H : Type} : List (DataW H) → Nat
  | [] => 0
  | d :: r => uptoBulk d + uptoBulkAll r
def uptoBulkEntries {H : Type} : List (Lit × DataW H) → Nat
  | [] => 0
  | x :: r => uptoBulkEntry x + uptoBulkEntries r
def uptoBulkEntry {H : Type} : Lit × DataW H → Nat
  | (.string bytes, d) => bytes.length + uptoBulk d + 1
  | (_, d) => uptoBulk d + 1
 end
def uptoSmall : (H : Type) → List (DataW H) → Bool := fun _ ds => decide (uptoBulkAll ds ≤ 1048576)
def OpenSpec.upto (s : _root_.Go.ChangeSpec) : _root_.Go.OpenSpec := { _root_.Go.OpenSpec.ofChange s with cond := some uptoSmall }

/-- 'attestorlaw16.ProverKeys', WHERE WHAT IT READS IS OF BULK AT MOST 1048576: true; the input reads as it did. -/
def proverKeysUptoRow : OpenClaim := { program := "ytebbnkahklbhiaagreatdoor", sum := "d951cec82f70cfc28d9bb964270cd89821824e521d2fa22770652aa06987e808", func := "attestor/attestorlaw16.ProverKeys", spec := "proverKeys", unfollowed := true, recurses := true, named := ["attestor/field.fields", "math/bits.deBruijn32tab", "math/bits.deBruijn64tab"], apart := false, laid := [("attestor/field.fields", laid_attestor_field_fields), ("math/bits.deBruijn32tab", laid_math_bits_deBruijn32tab), ("math/bits.deBruijn64tab", laid_math_bits_deBruijn64tab)], narrowed := true }
def ProverKeysUptoSaid : Prop := proverKeysUptoRow.holds Tryz.pinned (OpenSpec.upto proverKeysSpec)

/-- 'attestorlaw16.ProverProves', WHERE WHAT IT READS IS OF BULK AT MOST 1048576: true; the input reads as it did. -/
def proverProvesUptoRow : OpenClaim := { program := "ytebbnkahklbhiaagreatdoor", sum := "d951cec82f70cfc28d9bb964270cd89821824e521d2fa22770652aa06987e808", func := "attestor/attestorlaw16.ProverProves", spec := "proverProves", unfollowed := true, recurses := true, named := ["attestor/field.fields", "math/bits.deBruijn32tab", "math/bits.deBruijn64tab"], apart := false, laid := [("attestor/field.fields", laid_attestor_field_fields), ("math/bits.deBruijn32tab", laid_math_bits_deBruijn32tab), ("math/bits.deBruijn64tab", laid_math_bits_deBruijn64tab)], narrowed := true }
def ProverProvesUptoSaid : Prop := proverProvesUptoRow.holds Tryz.pinned (OpenSpec.upto proverProvesSpec)

/-- 'attestorlaw16.ProverKnown', WHERE WHAT IT READS IS OF BULK AT MOST 1048576: true; the input reads as it did. -/
def proverKnownUptoRow : OpenClaim := { program := "ytebbnkahklbhiaagreatdoor", sum := "d951cec82f70cfc28d9bb964270cd89821824e521d2fa22770652aa06987e808", func := "attestor/attestorlaw16.ProverKnown", spec := "proverKnown", unfollowed := true, recurses := true, named := ["attestor/field.fields", "math/bits.deBruijn32tab", "math/bits.deBruijn64tab"], apart := false, laid := [("attestor/field.fields", laid_attestor_field_fields), ("math/bits.deBruijn32tab", laid_math_bits_deBruijn32tab), ("math/bits.deBruijn64tab", laid_math_bits_deBruijn64tab)], narrowed := true }
def ProverKnownUptoSaid : Prop := proverKnownUptoRow.holds Tryz.pinned (OpenSpec.upto proverKnownSpec)

/-- 'attestorlaw16.ProverReads', WHERE WHAT IT READS IS OF BULK AT MOST 1048576: true; the input reads as it did. -/
def proverReadsUptoRow : OpenClaim := { program := "ytebbnkahklbhiaagreatdoor", sum := "d951cec82f70cfc28d9bb964270cd89821824e521d2fa22770652aa06987e808", func := "attestor/attestorlaw16.ProverReads", spec := "proverReads", unfollowed := true, recurses := true, named := ["attestor/field.fields", "math/bits.deBruijn32tab", "math/bits.deBruijn64tab"], apart := false, laid := [("attestor/field.fields", laid_attestor_field_fields), ("math/bits.deBruijn32tab", laid_math_bits_deBruijn32tab), ("math/bits.deBruijn64tab", laid_math_bits_deBruijn64tab)], narrowed := true }
def ProverReadsUptoSaid : Prop := proverReadsUptoRow.holds Tryz.pinned (OpenSpec.upto proverReadsSpec)

/-- 'attestorlaw16.ProverKeyed', WHERE WHAT IT READS IS OF BULK AT MOST 1048576: true; the input reads as it did. -/
def proverKeyedUptoRow : OpenClaim := { program := "ytebbnkahklbhiaagreatdoor", sum := "d951cec82f70cfc28d9bb964270cd89821824e521d2fa22770652aa06987e808", func := "attestor/attestorlaw16.ProverKeyed", spec := "proverKeyed", unfollowed := true, recurses := true, named := ["attestor/field.fields", "math/bits.deBruijn32tab", "math/bits.deBruijn64tab"], apart := false, laid := [("attestor/field.fields", laid_attestor_field_fields), ("math/bits.deBruijn32tab", laid_math_bits_deBruijn32tab), ("math/bits.deBruijn64tab", laid_math_bits_deBruijn64tab)], narrowed := true }
def ProverKeyedUptoSaid : Prop := proverKeyedUptoRow.holds Tryz.pinned (OpenSpec.upto proverKeyedSpec)

/-- 'attestorlaw18.VerifierKnown', WHERE WHAT IT READS IS OF BULK AT MOST 1048576: true; the input reads as it did. -/
def verifierKnownUptoRow : OpenClaim := { program := "ytebbnkahklbhiaagreatdoor", sum := "d951cec82f70cfc28d9bb964270cd89821824e521d2fa22770652aa06987e808", func := "attestor/attestorlaw18.VerifierKnown", spec := "verifierKnown", unfollowed := true, recurses := true, named := ["attestor/field.fields", "math/bits.deBruijn32tab", "math/bits.deBruijn64tab"], apart := false, laid := [("attestor/field.fields", laid_attestor_field_fields), ("math/bits.deBruijn32tab", laid_math_bits_deBruijn32tab), ("math/bits.deBruijn64tab", laid_math_bits_deBruijn64tab)], narrowed := true }
def VerifierKnownUptoSaid : Prop := verifierKnownUptoRow.holds Tryz.pinned (OpenSpec.upto verifierKnownSpec)

end Rows
end Go.Proofs.YtebbnkahklbhiaaGreatDoor
