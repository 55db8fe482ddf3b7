/-
  NARROWER THAN 'FOR EVERY INPUT', by the rows' own cells (each row's printed sentence says how): MonoSums: laid · MonoRing: laid · MonoValues: laid · MonoStable: laid · MonoKnown: laid.
  DERIVED. THE GIVEN ROWS OF THIS SEAT. 5 by the template 'for every input the law returns true; each argument reads behind the call as it read before'; 0 by the template 'total and deterministic' (their statements: YtgknegdikgdfeaaDoorTotals.lean).
  GIVEN WITH THE SEED: the statements are not yours to turn. If you find one false, say at which input.
  Laid BY PROGRAM, IN A SANDBOX (cutbox-rows.mjs): the forced cells as the released guide's own fill.sh prints them over the translation db8f87274ca53d67… (all of the seat's roots in one cut). By AI agents, Wed Nov 11 2026. No macro, syntax, notation, axiom, sorry.
-/
import Derived.Test.YtgknegdikgdfeaaDoorChecked
import GoSem.Claim
import GoSem.ClaimJoined
import GoSem.ClaimMapViews
import Derived.JoinedTies
import Derived.KernelRfl
namespace Go.Proofs.YtgknegdikgdfeaaDoor
/- THE CELL 'sum', in the pinned program and in every row, IS THE sha256 OF THE DUMP (.gsa) THAT YtgknegdikgdfeaaDoorProg.lean LOADS. Nothing in Lean hashes anything: it is a label: what it is worth is what the hold of that sum in a sandbox is worth. -/
noncomputable def Tryd.pinned : Pinned := { name := "ytgknegdikgdfeaadoor", sum := "db8f87274ca53d677a9bfc84d4307a5b68efc9a61fa44e089bebc7643da24c19", checked := Tryd.checked }
namespace Rows
def none {H : Type} : Left H := { results := [], args := [] }

/- WHAT THE LISTED PACKAGE-LEVEL VARIABLES READ AS WHEN THE CALL BEGINS. Each datum BY PROGRAM (the guide's laid-datum.mjs) off the statement by which the dump's own 'gosem.cut.vars' lays the variable. In a bare row this is a premise. The card (YtgknegdikgdfeaaDoorCards.lean) ties it to the program's text. -/
def laid_attestor_field_fields {H : Type} : DataW H := .agg [.agg [.lit (.int .u64 97), .lit (.int .u64 5), .lit (.int .i64 5), .lit (.int .i64 5), .slice [.lit (.int .u64 3)] []], .agg [.lit (.int .u64 257), .lit (.int .u64 3), .lit (.int .i64 8), .lit (.int .i64 3), .nil], .agg [.lit (.int .u64 12289), .lit (.int .u64 11), .lit (.int .i64 12), .lit (.int .i64 5), .slice [.lit (.int .u64 3)] []], .agg [.lit (.int .u64 998244353), .lit (.int .u64 3), .lit (.int .i64 23), .lit (.int .i64 3), .slice [.lit (.int .u64 7), .lit (.int .u64 17)] []]]
def laid_math_bits_deBruijn32tab {H : Type} : DataW H := .agg [.lit (.int .u8 0), .lit (.int .u8 1), .lit (.int .u8 28), .lit (.int .u8 2), .lit (.int .u8 29), .lit (.int .u8 14), .lit (.int .u8 24), .lit (.int .u8 3), .lit (.int .u8 30), .lit (.int .u8 22), .lit (.int .u8 20), .lit (.int .u8 15), .lit (.int .u8 25), .lit (.int .u8 17), .lit (.int .u8 4), .lit (.int .u8 8), .lit (.int .u8 31), .lit (.int .u8 27), .lit (.int .u8 13), .lit (.int .u8 23), .lit (.int .u8 21), .lit (.int .u8 19), .lit (.int .u8 16), .lit (.int .u8 7), .lit (.int .u8 26), .lit (.int .u8 12), .lit (.int .u8 18), .lit (.int .u8 6), .lit (.int .u8 11), .lit (.int .u8 5), .lit (.int .u8 10), .lit (.int .u8 9)]
def laid_math_bits_deBruijn64tab {H : Type} : DataW H := .agg [.lit (.int .u8 0), .lit (.int .u8 1), .lit (.int .u8 56), .lit (.int .u8 2), .lit (.int .u8 57), .lit (.int .u8 49), .lit (.int .u8 28), .lit (.int .u8 3), .lit (.int .u8 61), .lit (.int .u8 58), .lit (.int .u8 42), .lit (.int .u8 50), .lit (.int .u8 38), .lit (.int .u8 29), .lit (.int .u8 17), .lit (.int .u8 4), .lit (.int .u8 62), .lit (.int .u8 47), .lit (.int .u8 59), .lit (.int .u8 36), .lit (.int .u8 45), .lit (.int .u8 43), .lit (.int .u8 51), .lit (.int .u8 22), .lit (.int .u8 53), .lit (.int .u8 39), .lit (.int .u8 33), .lit (.int .u8 30), .lit (.int .u8 24), .lit (.int .u8 18), .lit (.int .u8 12), .lit (.int .u8 5), .lit (.int .u8 63), .lit (.int .u8 55), .lit (.int .u8 48), .lit (.int .u8 27), .lit (.int .u8 60), .lit (.int .u8 41), .lit (.int .u8 37), .lit (.int .u8 16), .lit (.int .u8 46), .lit (.int .u8 35), .lit (.int .u8 44), .lit (.int .u8 21), .lit (.int .u8 52), .lit (.int .u8 32), .lit (.int .u8 23), .lit (.int .u8 11), .lit (.int .u8 54), .lit (.int .u8 26), .lit (.int .u8 40), .lit (.int .u8 15), .lit (.int .u8 34), .lit (.int .u8 20), .lit (.int .u8 31), .lit (.int .u8 10), .lit (.int .u8 25), .lit (.int .u8 14), .lit (.int .u8 19), .lit (.int .u8 9), .lit (.int .u8 13), .lit (.int .u8 8), .lit (.int .u8 7), .lit (.int .u8 6)]
def laid_internal_strconv_uint64pow10 {H : Type} : DataW H := .agg [.lit (.int .u64 1), .lit (.int .u64 10), .lit (.int .u64 100), .lit (.int .u64 1000), .lit (.int .u64 10000), .lit (.int .u64 100000), .lit (.int .u64 1000000), .lit (.int .u64 10000000), .lit (.int .u64 100000000), .lit (.int .u64 1000000000), .lit (.int .u64 10000000000), .lit (.int .u64 100000000000), .lit (.int .u64 1000000000000), .lit (.int .u64 10000000000000), .lit (.int .u64 100000000000000), .lit (.int .u64 1000000000000000), .lit (.int .u64 10000000000000000), .lit (.int .u64 100000000000000000), .lit (.int .u64 1000000000000000000), .lit (.int .u64 10000000000000000000)]

/-- 'attestorlaw12.MonoSums': WHATEVER THE INPUT: true; the input reads as it did. -/
def monoSumsSpec : ChangeSpec := { name := "monoSums", fn := fun _ => fun
  | [d1, d2, d3] => { results := [.lit (.bool true)], args := [d1, d2, d3] }
  | _ => none }
def monoSumsRow : OpenClaim := { program := "ytgknegdikgdfeaadoor", sum := "db8f87274ca53d677a9bfc84d4307a5b68efc9a61fa44e089bebc7643da24c19", func := "attestor/attestorlaw12.MonoSums", spec := "monoSums", unfollowed := true, recurses := true, named := ["attestor/field.fields", "internal/strconv.uint64pow10", "math/bits.deBruijn32tab", "math/bits.deBruijn64tab"], apart := false, laid := [("attestor/field.fields", laid_attestor_field_fields), ("math/bits.deBruijn32tab", laid_math_bits_deBruijn32tab), ("math/bits.deBruijn64tab", laid_math_bits_deBruijn64tab), ("internal/strconv.uint64pow10", laid_internal_strconv_uint64pow10)] }
def MonoSumsSaid : Prop := monoSumsRow.holds Tryd.pinned (OpenSpec.ofChange monoSumsSpec)

/-- ITS FALSE NEIGHBOUR: 'it returns false'. Refute it at one input. -/
def monoSumsWrong : ChangeSpec := { name := "monoSums", fn := fun _ => fun
  | [d1, d2, d3] => { results := [.lit (.bool false)], args := [d1, d2, d3] }
  | _ => none }
def MonoSumsWrongFalsely : Prop := monoSumsRow.holds Tryd.pinned (OpenSpec.ofChange monoSumsWrong)

/-- 'attestorlaw12.MonoRing': WHATEVER THE INPUT: true; the input reads as it did. -/
def monoRingSpec : ChangeSpec := { name := "monoRing", fn := fun _ => fun
  | [d1, d2, d3, d4] => { results := [.lit (.bool true)], args := [d1, d2, d3, d4] }
  | _ => none }
def monoRingRow : OpenClaim := { program := "ytgknegdikgdfeaadoor", sum := "db8f87274ca53d677a9bfc84d4307a5b68efc9a61fa44e089bebc7643da24c19", func := "attestor/attestorlaw12.MonoRing", spec := "monoRing", unfollowed := true, recurses := true, named := ["attestor/field.fields", "internal/strconv.uint64pow10", "math/bits.deBruijn32tab", "math/bits.deBruijn64tab"], apart := false, laid := [("attestor/field.fields", laid_attestor_field_fields), ("math/bits.deBruijn32tab", laid_math_bits_deBruijn32tab), ("math/bits.deBruijn64tab", laid_math_bits_deBruijn64tab), ("internal/strconv.uint64pow10", laid_internal_strconv_uint64pow10)] }
def MonoRingSaid : Prop := monoRingRow.holds Tryd.pinned (OpenSpec.ofChange monoRingSpec)

/-- ITS FALSE NEIGHBOUR: 'it returns false'. Refute it at one input. -/
def monoRingWrong : ChangeSpec := { name := "monoRing", fn := fun _ => fun
  | [d1, d2, d3, d4] => { results := [.lit (.bool false)], args := [d1, d2, d3, d4] }
  | _ => none }
def MonoRingWrongFalsely : Prop := monoRingRow.holds Tryd.pinned (OpenSpec.ofChange monoRingWrong)

/-- 'attestorlaw12.MonoValues': WHATEVER THE INPUT: true; the input reads as it did. -/
def monoValuesSpec : ChangeSpec := { name := "monoValues", fn := fun _ => fun
  | [d1, d2, d3] => { results := [.lit (.bool true)], args := [d1, d2, d3] }
  | _ => none }
def monoValuesRow : OpenClaim := { program := "ytgknegdikgdfeaadoor", sum := "db8f87274ca53d677a9bfc84d4307a5b68efc9a61fa44e089bebc7643da24c19", func := "attestor/attestorlaw12.MonoValues", spec := "monoValues", unfollowed := true, recurses := true, named := ["attestor/field.fields", "internal/strconv.uint64pow10", "math/bits.deBruijn32tab", "math/bits.deBruijn64tab"], apart := false, laid := [("attestor/field.fields", laid_attestor_field_fields), ("math/bits.deBruijn32tab", laid_math_bits_deBruijn32tab), ("math/bits.deBruijn64tab", laid_math_bits_deBruijn64tab), ("internal/strconv.uint64pow10", laid_internal_strconv_uint64pow10)] }
def MonoValuesSaid : Prop := monoValuesRow.holds Tryd.pinned (OpenSpec.ofChange monoValuesSpec)

/-- ITS FALSE NEIGHBOUR: 'it returns false'. Refute it at one input. -/
def monoValuesWrong : ChangeSpec := { name := "monoValues", fn := fun _ => fun
  | [d1, d2, d3] => { results := [.lit (.bool false)], args := [d1, d2, d3] }
  | _ => none }
def MonoValuesWrongFalsely : Prop := monoValuesRow.holds Tryd.pinned (OpenSpec.ofChange monoValuesWrong)

/-- 'attestorlaw12.MonoStable': WHATEVER THE INPUT: true; the input reads as it did. -/
def monoStableSpec : ChangeSpec := { name := "monoStable", fn := fun _ => fun
  | [d1, d2, d3] => { results := [.lit (.bool true)], args := [d1, d2, d3] }
  | _ => none }
def monoStableRow : OpenClaim := { program := "ytgknegdikgdfeaadoor", sum := "db8f87274ca53d677a9bfc84d4307a5b68efc9a61fa44e089bebc7643da24c19", func := "attestor/attestorlaw12.MonoStable", spec := "monoStable", unfollowed := true, recurses := true, named := ["attestor/field.fields", "internal/strconv.uint64pow10", "math/bits.deBruijn32tab", "math/bits.deBruijn64tab"], apart := false, laid := [("attestor/field.fields", laid_attestor_field_fields), ("math/bits.deBruijn32tab", laid_math_bits_deBruijn32tab), ("math/bits.deBruijn64tab", laid_math_bits_deBruijn64tab), ("internal/strconv.uint64pow10", laid_internal_strconv_uint64pow10)] }
def MonoStableSaid : Prop := monoStableRow.holds Tryd.pinned (OpenSpec.ofChange monoStableSpec)

/-- ITS FALSE NEIGHBOUR: 'it returns false'. Refute it at one input. -/
def monoStableWrong : ChangeSpec := { name := "monoStable", fn := fun _ => fun
  | [d1, d2, d3] => { results := [.lit (.bool false)], args := [d1, d2, d3] }
  | _ => none }
def MonoStableWrongFalsely : Prop := monoStableRow.holds Tryd.pinned (OpenSpec.ofChange monoStableWrong)

/-- 'attestorlaw12.MonoKnown': WHATEVER THE INPUT: true; the input reads as it did. -/
def monoKnownSpec : ChangeSpec := { name := "monoKnown", fn := fun _ => fun
  | [] => { results := [.lit (.bool true)], args := [] }
  | _ => none }
def monoKnownRow : OpenClaim := { program := "ytgknegdikgdfeaadoor", sum := "db8f87274ca53d677a9bfc84d4307a5b68efc9a61fa44e089bebc7643da24c19", func := "attestor/attestorlaw12.MonoKnown", spec := "monoKnown", inPlace := ["internal/abi.NoEscape"], unfollowed := true, recurses := true, named := ["internal/strconv.uint64pow10", "math/bits.deBruijn32tab", "math/bits.deBruijn64tab", "attestor/field.fields"], apart := false, laid := [("attestor/field.fields", laid_attestor_field_fields), ("math/bits.deBruijn32tab", laid_math_bits_deBruijn32tab), ("math/bits.deBruijn64tab", laid_math_bits_deBruijn64tab), ("internal/strconv.uint64pow10", laid_internal_strconv_uint64pow10)] }
def MonoKnownSaid : Prop := monoKnownRow.holds Tryd.pinned (OpenSpec.ofChange monoKnownSpec)

/-- ITS FALSE NEIGHBOUR: 'it returns false'. Refute it at one input. -/
def monoKnownWrong : ChangeSpec := { name := "monoKnown", fn := fun _ => fun
  | [] => { results := [.lit (.bool false)], args := [] }
  | _ => none }
def MonoKnownWrongFalsely : Prop := monoKnownRow.holds Tryd.pinned (OpenSpec.ofChange monoKnownWrong)

/- THE SECOND FORM. 'bulk': how many values and letters a reading holds, each counted each time it is reached (what is shared counts as often as it is met; a slice's spare places count too). A statement '..UptoSaid' is the law's where the arguments, and the package variables that the reading takes, are together of bulk at most 1048576: NARROWER than '..Said'. Prove '..Said' where nothing that the law and all that it calls make is longer than what came in: it says more and counts as full. Else prove '..UptoSaid'. A law counts once. -/
mutual
def uptoBulk {H : Type} : DataW H → Nat
  | .lit (.string bytes) => bytes.length + 1
  | .lit _ => 1
  | .nil => 1
  | .ptr d => uptoBulk d + 1
  | .slice elems spare => uptoBulkAll elems + uptoBulkAll spare + 1
  | .agg parts => uptoBulkAll parts + 1
  | .iface _ d => uptoBulk d + 1
  | .map entries => uptoBulkEntries entries + 1
  | .held _ => 1
def uptoBulkAll {H : Type} : List (DataW H) → Nat
  | [] => 0
  | d :: r => uptoBulk d + uptoBulkAll r
def uptoBulkEntries {H : Type} : List (Lit × DataW H) → Nat
  | [] => 0
  | x :: r => uptoBulkEntry x + uptoBulkEntries r
def uptoBulkEntry {H : Type} : Lit × DataW H → Nat
  | (.string bytes, d) => bytes.length + uptoBulk d + 1
  | (_, d) => uptoBulk d + 1
 end
def uptoSmall : (H : Type) → List (DataW H) → Bool := fun _ ds => decide (uptoBulkAll ds ≤ 1048576)
def OpenSpec.upto (s : _root_.Go.ChangeSpec) : _root_.Go.OpenSpec := { _root_.Go.OpenSpec.ofChange s with cond := some uptoSmall }

/-- 'attestorlaw12.MonoSums', WHERE WHAT IT READS IS OF BULK AT MOST 1048576: true; the input reads as it did. -/
def monoSumsUptoRow : OpenClaim := { program := "ytgknegdikgdfeaadoor", sum := "db8f87274ca53d677a9bfc84d4307a5b68efc9a61fa44e089bebc7643da24c19", func := "attestor/attestorlaw12.MonoSums", spec := "monoSums", unfollowed := true, recurses := true, named := ["attestor/field.fields", "internal/strconv.uint64pow10", "math/bits.deBruijn32tab", "math/bits.deBruijn64tab"], apart := false, laid := [("attestor/field.fields", laid_attestor_field_fields), ("math/bits.deBruijn32tab", laid_math_bits_deBruijn32tab), ("math/bits.deBruijn64tab", laid_math_bits_deBruijn64tab), ("internal/strconv.uint64pow10", laid_internal_strconv_uint64pow10)], narrowed := true }
def MonoSumsUptoSaid : Prop := monoSumsUptoRow.holds Tryd.pinned (OpenSpec.upto monoSumsSpec)

/-- 'attestorlaw12.MonoRing', WHERE WHAT IT READS IS OF BULK AT MOST 1048576: true; the input reads as it did. -/
def monoRingUptoRow : OpenClaim := { program := "ytgknegdikgdfeaadoor", sum := "db8f87274ca53d677a9bfc84d4307a5b68efc9a61fa44e089bebc7643da24c19", func := "attestor/attestorlaw12.MonoRing", spec := "monoRing", unfollowed := true, recurses := true, named := ["attestor/field.fields", "internal/strconv.uint64pow10", "math/bits.deBruijn32tab", "math/bits.deBruijn64tab"], apart := false, laid := [("attestor/field.fields", laid_attestor_field_fields), ("math/bits.deBruijn32tab", laid_math_bits_deBruijn32tab), ("math/bits.deBruijn64tab", laid_math_bits_deBruijn64tab), ("internal/strconv.uint64pow10", laid_internal_strconv_uint64pow10)], narrowed := true }
def MonoRingUptoSaid : Prop := monoRingUptoRow.holds Tryd.pinned (OpenSpec.upto monoRingSpec)

/-- 'attestorlaw12.MonoValues', WHERE WHAT IT READS IS OF BULK AT MOST 1048576: true; the input reads as it did. -/
def monoValuesUptoRow : OpenClaim := { program := "ytgknegdikgdfeaadoor", sum := "db8f87274ca53d677a9bfc84d4307a5b68efc9a61fa44e089bebc7643da24c19", func := "attestor/attestorlaw12.MonoValues", spec := "monoValues", unfollowed := true, recurses := true, named := ["attestor/field.fields", "internal/strconv.uint64pow10", "math/bits.deBruijn32tab", "math/bits.deBruijn64tab"], apart := false, laid := [("attestor/field.fields", laid_attestor_field_fields), ("math/bits.deBruijn32tab", laid_math_bits_deBruijn32tab), ("math/bits.deBruijn64tab", laid_math_bits_deBruijn64tab), ("internal/strconv.uint64pow10", laid_internal_strconv_uint64pow10)], narrowed := true }
def MonoValuesUptoSaid : Prop := monoValuesUptoRow.holds Tryd.pinned (OpenSpec.upto monoValuesSpec)

/-- 'attestorlaw12.MonoStable', WHERE WHAT IT READS IS OF BULK AT MOST 1048576: true; the input reads as it did. -/
def monoStableUptoRow : OpenClaim := { program := "ytgknegdikgdfeaadoor", sum := "db8f87274ca53d677a9bfc84d4307a5b68efc9a61fa44e089bebc7643da24c19", func := "attestor/attestorlaw12.MonoStable", spec := "monoStable", unfollowed := true, recurses := true, named := ["attestor/field.fields", "internal/strconv.uint64pow10", "math/bits.deBruijn32tab", "math/bits.deBruijn64tab"], apart := false, laid := [("attestor/field.fields", laid_attestor_field_fields), ("math/bits.deBruijn32tab", laid_math_bits_deBruijn32tab), ("math/bits.deBruijn64tab", laid_math_bits_deBruijn64tab), ("internal/strconv.uint64pow10", laid_internal_strconv_uint64pow10)], narrowed := true }
def MonoStableUptoSaid : Prop := monoStableUptoRow.holds Tryd.pinned (OpenSpec.upto monoStableSpec)

/-- 'attestorlaw12.MonoKnown', WHERE WHAT IT READS IS OF BULK AT MOST 1048576: true; the input reads as it did. -/
def monoKnownUptoRow : OpenClaim := { program := "ytgknegdikgdfeaadoor", sum := "db8f87274ca53d677a9bfc84d4307a5b68efc9a61fa44e089bebc7643da24c19", func := "attestor/attestorlaw12.MonoKnown", spec := "monoKnown", inPlace := ["internal/abi.NoEscape"], unfollowed := true, recurses := true, named := ["internal/strconv.uint64pow10", "math/bits.deBruijn32tab", "math/bits.deBruijn64tab", "attestor/field.fields"], apart := false, laid := [("attestor/field.fields", laid_attestor_field_fields), ("math/bits.deBruijn32tab", laid_math_bits_deBruijn32tab), ("math/bits.deBruijn64tab", laid_math_bits_deBruijn64tab), ("internal/strconv.uint64pow10", laid_internal_strconv_uint64pow10)], narrowed := true }
def MonoKnownUptoSaid : Prop := monoKnownUptoRow.holds Tryd.pinned (OpenSpec.upto monoKnownSpec)

end Rows
end Go.Proofs.YtgknegdikgdfeaaDoor
