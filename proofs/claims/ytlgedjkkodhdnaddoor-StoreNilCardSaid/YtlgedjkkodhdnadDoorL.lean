/- What the listed package variables hold, and the evaluator's runs, by the kernel; no conditions. -/
import Derived.Test.YtlgedjkkodhdnadDoorE
namespace Go.Proofs.YtlgedjkkodhdnadDoor.Ev
set_option maxRecDepth 100000
theorem runsL : callK F (run F (nat_lit 100000)) (nat_lit 17) [] (stOf l0 4) (saysB true) = .done .normal .leaf ⟨.leaf, 0, 0⟩ := by kernel_rfl
end Go.Proofs.YtlgedjkkodhdnadDoor.Ev
