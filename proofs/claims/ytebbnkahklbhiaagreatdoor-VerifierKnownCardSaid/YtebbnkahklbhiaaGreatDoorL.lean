/- What the listed package variables hold, and the evaluator's runs, by the kernel; no conditions. -/
import Derived.Test.YtebbnkahklbhiaaGreatDoorS
namespace Go.Proofs.YtebbnkahklbhiaaGreatDoor.Ev
set_option maxRecDepth 100000
theorem runsL : callK F (runS T0 (nat_lit 0) F (nat_lit 1000000)) (nat_lit 37) [] (stOf l0 6) (saysB true) = .done .normal .leaf ⟨.leaf, 0, 0⟩ := by kernel_rfl
end Go.Proofs.YtebbnkahklbhiaaGreatDoor.Ev
