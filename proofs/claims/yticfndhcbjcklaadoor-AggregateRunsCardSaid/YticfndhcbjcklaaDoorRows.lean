/-
  NARROWER THAN 'FOR EVERY INPUT', by the rows' own cells (each row's printed sentence says how): AggregateInputs: laid · AggregateJoins: laid · AggregateRuns: laid.
  DERIVED. THE GIVEN ROWS OF THIS SEAT. 3 by the template 'for every input the law returns true; each argument reads behind the call as it read before'; 0 by the template 'total and deterministic' (their statements: YticfndhcbjcklaaDoorTotals.lean).
  GIVEN WITH THE SEED: the statements are not yours to turn. If you find one false, say at which input.
  Laid BY PROGRAM, IN A SANDBOX (cutbox-rows.mjs): the forced cells as the released guide's own fill.sh prints them over the translation 5eff85544204d17e… (all of the seat's roots in one cut). By AI agents, Wed Nov 11 2026. No macro, syntax, notation, axiom, sorry.
-/
import Derived.Test.YticfndhcbjcklaaDoorChecked
import GoSem.Claim
import GoSem.ClaimJoined
import GoSem.ClaimMapViews
import Derived.JoinedTies
import Derived.KernelRfl
namespace Go.Proofs.YticfndhcbjcklaaDoor
/- THE CELL 'sum', in the pinned program and in every row, IS THE sha256 OF THE DUMP (.gsa) THAT YticfndhcbjcklaaDoorProg.lean LOADS. Nothing in Lean hashes anything: it is a label: what it is worth is what the hold of that sum in a sandbox is worth. -/
noncomputable def Tryd.pinned : Pinned := { name := "yticfndhcbjcklaadoor", sum := "5eff85544204d17e551ffb7138ec5fe27e2c978b7f7e87aaee91a242cc46b05c", checked := Tryd.checked }
namespace Rows
def none {H : Type} : Left H := { results := [], args := [] }

/- WHAT THE LISTED PACKAGE-LEVEL VARIABLES READ AS WHEN THE CALL BEGINS. Each datum BY PROGRAM (the guide's laid-datum.mjs) off the statement by which the dump's own 'gosem.cut.vars' lays the variable. In a bare row this is a premise. The card (YticfndhcbjcklaaDoorCards.lean) ties it to the program's text. -/
def laid_attestor_field_fields {H : Type} : DataW H := .agg [.agg [.lit (.int .u64 97), .lit (.int .u64 5), .lit (.int .i64 5), .lit (.int .i64 5), .slice [.lit (.int .u64 3)] []], .agg [.lit (.int .u64 257), .lit (.int .u64 3), .lit (.int .i64 8), .lit (.int .i64 3), .nil], .agg [.lit (.int .u64 12289), .lit (.int .u64 11), .lit (.int .i64 12), .lit (.int .i64 5), .slice [.lit (.int .u64 3)] []], .agg [.lit (.int .u64 998244353), .lit (.int .u64 3), .lit (.int .i64 23), .lit (.int .i64 3), .slice [.lit (.int .u64 7), .lit (.int .u64 17)] []]]

/-- 'attestorlaw32.AggregateInputs': WHATEVER THE INPUT: true; the input reads as it did. -/
def aggregateInputsSpec : ChangeSpec := { name := "aggregateInputs", fn := fun _ => fun
  | [d1, d2, d3] => { results := [.lit (.bool true)], args := [d1, d2, d3] }
  | _ => none }
def aggregateInputsRow : OpenClaim := { program := "yticfndhcbjcklaadoor", sum := "5eff85544204d17e551ffb7138ec5fe27e2c978b7f7e87aaee91a242cc46b05c", func := "attestor/attestorlaw32.AggregateInputs", spec := "aggregateInputs", unfollowed := true, recurses := true, named := ["attestor/field.fields"], apart := false, laid := [("attestor/field.fields", laid_attestor_field_fields)] }
def AggregateInputsSaid : Prop := aggregateInputsRow.holds Tryd.pinned (OpenSpec.ofChange aggregateInputsSpec)

/-- ITS FALSE NEIGHBOUR: 'it returns false'. Refute it at one input. -/
def aggregateInputsWrong : ChangeSpec := { name := "aggregateInputs", fn := fun _ => fun
  | [d1, d2, d3] => { results := [.lit (.bool false)], args := [d1, d2, d3] }
  | _ => none }
def AggregateInputsWrongFalsely : Prop := aggregateInputsRow.holds Tryd.pinned (OpenSpec.ofChange aggregateInputsWrong)

/-- 'attestorlaw32.AggregateJoins': WHATEVER THE INPUT: true; the input reads as it did. -/
def aggregateJoinsSpec : ChangeSpec := { name := "aggregateJoins", fn := fun _ => fun
  | [d] => { results := [.lit (.bool true)], args := [d] }
  | _ => none }
def aggregateJoinsRow : OpenClaim := { program := "yticfndhcbjcklaadoor", sum := "5eff85544204d17e551ffb7138ec5fe27e2c978b7f7e87aaee91a242cc46b05c", func := "attestor/attestorlaw32.AggregateJoins", spec := "aggregateJoins", unfollowed := true, recurses := true, named := ["attestor/field.fields"], apart := false, laid := [("attestor/field.fields", laid_attestor_field_fields)] }
def AggregateJoinsSaid : Prop := aggregateJoinsRow.holds Tryd.pinned (OpenSpec.ofChange aggregateJoinsSpec)

/-- ITS FALSE NEIGHBOUR: 'it returns false'. Refute it at one input. -/
def aggregateJoinsWrong : ChangeSpec := { name := "aggregateJoins", fn := fun _ => fun
  | [d] => { results := [.lit (.bool false)], args := [d] }
  | _ => none }
def AggregateJoinsWrongFalsely : Prop := aggregateJoinsRow.holds Tryd.pinned (OpenSpec.ofChange aggregateJoinsWrong)

/-- 'attestorlaw32.AggregateRuns': WHATEVER THE INPUT: true; the input reads as it did. -/
def aggregateRunsSpec : ChangeSpec := { name := "aggregateRuns", fn := fun _ => fun
  | [d1, d2] => { results := [.lit (.bool true)], args := [d1, d2] }
  | _ => none }
def aggregateRunsRow : OpenClaim := { program := "yticfndhcbjcklaadoor", sum := "5eff85544204d17e551ffb7138ec5fe27e2c978b7f7e87aaee91a242cc46b05c", func := "attestor/attestorlaw32.AggregateRuns", spec := "aggregateRuns", unfollowed := true, recurses := true, named := ["attestor/field.fields"], apart := false, laid := [("attestor/field.fields", laid_attestor_field_fields)] }
def AggregateRunsSaid : Prop := aggregateRunsRow.holds Tryd.pinned (OpenSpec.ofChange aggregateRunsSpec)

/-- ITS FALSE NEIGHBOUR: 'it returns false'. Refute it at one input. -/
def aggregateRunsWrong : ChangeSpec := { name := "aggregateRuns", fn := fun _ => fun
  | [d1, d2] => { results := [.lit (.bool false)], args := [d1, d2] }
  | _ => none }
def AggregateRunsWrongFalsely : Prop := aggregateRunsRow.holds Tryd.pinned (OpenSpec.ofChange aggregateRunsWrong)

/- THE SECOND FORM. 'bulk': how many values and letters a reading holds, each counted each time it is reached (what is shared counts as often as it is met; a slice's spare places count too). A statement '..UptoSaid' is the law's where the arguments, and the package variables that the reading takes, are together of bulk at most 1048576: NARROWER than '..Said'. Prove '..Said' where nothing that the law and all that it calls make is longer than what came in: it says more and counts as full. Else prove '..UptoSaid'. A law counts once. -/
mutual
def uptoBulk {H : Type} : DataW H → Nat
  | .lit (.string bytes) => bytes.length + 1
  | .lit _ => 1
  | .nil => 1
  | .ptr d => uptoBulk d + 1
  | .slice elems spare => uptoBulkAll elems + uptoBulkAll spare + 1
  | .agg parts => uptoBulkAll parts + 1
  | .iface _ d => uptoBulk d + 1
  | .map entries => uptoBulkEntries entries + 1
  | .held _ => 1
def uptoBulkAll {H : Type} : List (DataW H) → Nat
  | [] => 0
  | d :: r => uptoBulk d + uptoBulkAll r
def uptoBulkEntries {H : Type} : List (Lit × DataW H) → Nat
  | [] => 0
  | x :: r => uptoBulkEntry x + uptoBulkEntries r
def uptoBulkEntry {H : Type} : Lit × DataW H → Nat
  | (.string bytes, d) => bytes.length + uptoBulk d + 1
  | (_, d) => uptoBulk d + 1
 end
def uptoSmall : (H : Type) → List (DataW H) → Bool := fun _ ds => decide (uptoBulkAll ds ≤ 1048576)
def OpenSpec.upto (s : _root_.Go.ChangeSpec) : _root_.Go.OpenSpec := { _root_.Go.OpenSpec.ofChange s with cond := some uptoSmall }

/-- 'attestorlaw32.AggregateInputs', WHERE WHAT IT READS IS OF BULK AT MOST 1048576: true; the input reads as it did. -/
def aggregateInputsUptoRow : OpenClaim := { program := "yticfndhcbjcklaadoor", sum := "5eff85544204d17e551ffb7138ec5fe27e2c978b7f7e87aaee91a242cc46b05c", func := "attestor/attestorlaw32.AggregateInputs", spec := "aggregateInputs", unfollowed := true, recurses := true, named := ["attestor/field.fields"], apart := false, laid := [("attestor/field.fields", laid_attestor_field_fields)], narrowed := true }
def AggregateInputsUptoSaid : Prop := aggregateInputsUptoRow.holds Tryd.pinned (OpenSpec.upto aggregateInputsSpec)

/-- 'attestorlaw32.AggregateJoins', WHERE WHAT IT READS IS OF BULK AT MOST 1048576: true; the input reads as it did. -/
def aggregateJoinsUptoRow : OpenClaim := { program := "yticfndhcbjcklaadoor", sum := "5eff85544204d17e551ffb7138ec5fe27e2c978b7f7e87aaee91a242cc46b05c", func := "attestor/attestorlaw32.AggregateJoins", spec := "aggregateJoins", unfollowed := true, recurses := true, named := ["attestor/field.fields"], apart := false, laid := [("attestor/field.fields", laid_attestor_field_fields)], narrowed := true }
def AggregateJoinsUptoSaid : Prop := aggregateJoinsUptoRow.holds Tryd.pinned (OpenSpec.upto aggregateJoinsSpec)

/-- 'attestorlaw32.AggregateRuns', WHERE WHAT IT READS IS OF BULK AT MOST 1048576: true; the input reads as it did. -/
def aggregateRunsUptoRow : OpenClaim := { program := "yticfndhcbjcklaadoor", sum := "5eff85544204d17e551ffb7138ec5fe27e2c978b7f7e87aaee91a242cc46b05c", func := "attestor/attestorlaw32.AggregateRuns", spec := "aggregateRuns", unfollowed := true, recurses := true, named := ["attestor/field.fields"], apart := false, laid := [("attestor/field.fields", laid_attestor_field_fields)], narrowed := true }
def AggregateRunsUptoSaid : Prop := aggregateRunsUptoRow.holds Tryd.pinned (OpenSpec.upto aggregateRunsSpec)

end Rows
end Go.Proofs.YticfndhcbjcklaaDoor
