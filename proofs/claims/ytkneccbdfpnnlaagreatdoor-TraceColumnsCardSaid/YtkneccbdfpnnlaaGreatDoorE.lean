/- What the listed package variables hold, and the evaluator's runs, by the kernel; no conditions. -/
import Derived.Test.YtkneccbdfpnnlaaGreatDoorC
import Derived.Test.YtkneccbdfpnnlaaGreatDoorEvC
import Derived.Test.YtkneccbdfpnnlaaGreatDoorRows
namespace Go.Proofs.YtkneccbdfpnnlaaGreatDoor.Ev
set_option maxRecDepth 100000
def l0:List (Nat×List S):=[(n1,[(.int .u64 (.ofNat n97)),(.int .u64 (.ofNat n5)),(.int .i64 (.ofNat n5)),(.int .i64 (.ofNat n5)),(.slice n2 n0 n1 (some n1) n1),(.int .u64 (.ofNat (nat_lit 257))),(.int .u64 (.ofNat n3)),(.int .i64 (.ofNat n8)),(.int .i64 (.ofNat n3)),zn,(.int .u64 (.ofNat (nat_lit 12289))),(.int .u64 (.ofNat n11)),(.int .i64 (.ofNat n12)),(.int .i64 (.ofNat n5)),(.slice n3 n0 n1 (some n1) n1),(.int .u64 (.ofNat (nat_lit 998244353))),(.int .u64 (.ofNat n3)),(.int .i64 (.ofNat n23)),(.int .i64 (.ofNat n3)),(.slice n4 n0 n2 (some n2) n1)])
,(n2,[(.int .u64 (.ofNat n3))])
,(n3,[(.int .u64 (.ofNat n3))])
,(n4,[(.int .u64 (.ofNat n7)),(.int .u64 (.ofNat n17))])
,(n0,[zb,(.int .u8 (.ofNat n5)),(.int .u8 (.ofNat n3)),(.int .u8 (.ofNat n3)),(.int .u8 (.ofNat n3)),(.int .u8 (.ofNat n3)),(.int .u8 (.ofNat n3)),(.int .u8 (.ofNat n3)),(.int .u8 (.ofNat n5))])
]
def nx0:Nat:=5
theorem laid0:laidCells Go.Proofs.Tryz.prog Go.Proofs.YtkneccbdfpnnlaaGreatDoor.Rows.traceColumnsRow.laid 2=some (l0,5):=by kernel_rfl
end Go.Proofs.YtkneccbdfpnnlaaGreatDoor.Ev
