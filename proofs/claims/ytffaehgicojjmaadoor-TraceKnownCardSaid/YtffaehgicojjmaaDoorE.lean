/- What the listed package variables hold, and the evaluator's runs, by the kernel; no conditions. -/
import Derived.Test.YtffaehgicojjmaaDoorC
import Derived.Test.YtffaehgicojjmaaDoorEvC
import Derived.Test.YtffaehgicojjmaaDoorRows
namespace Go.Proofs.YtffaehgicojjmaaDoor.Ev
set_option maxRecDepth 100000
def s64 (n : Nat) : S := .int .u64 (.ofNat n)
def si64 (n : Nat) : S := .int .i64 (.ofNat n)
def s8 (n : Nat) : S := .int .u8 (.ofNat n)
def l0 : List (Nat × List S) := [(nat_lit 1, [s64 97, s64 5, si64 5, si64 5, .slice 2 0 1 (some 1) 1, s64 257, s64 3, si64 8, si64 3, .nils, s64 12289, s64 11, si64 12, si64 5, .slice 3 0 1 (some 1) 1, s64 998244353, s64 3, si64 23, si64 3, .slice 4 0 2 (some 2) 1]),
  (2, [s64 3]), (3, [s64 3]), (4, [s64 7, s64 17]), (0, [s8 0, s8 5, s8 3, s8 3, s8 3, s8 3, s8 3, s8 3, s8 5])]
theorem laid0 : laidCells Go.Proofs.Tryd.prog Go.Proofs.YtffaehgicojjmaaDoor.Rows.traceKnownRow.laid 2 = some (l0, 5) := by kernel_rfl
end Go.Proofs.YtffaehgicojjmaaDoor.Ev
