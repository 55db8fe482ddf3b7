/- What the listed package variables hold, and the evaluator's runs, by the kernel; no conditions. -/
import Derived.Test.YtffaehgicojjmaaDoorE
namespace Go.Proofs.YtffaehgicojjmaaDoor.Ev
set_option maxRecDepth 100000
theorem runsL : callK F (run F (nat_lit 100000)) (nat_lit 9) [] (stOf l0 5) (saysB true) = .done .normal .leaf ⟨.leaf, 0, 0⟩ := by kernel_rfl
end Go.Proofs.YtffaehgicojjmaaDoor.Ev
