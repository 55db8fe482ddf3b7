/- What the listed package variables hold, and the evaluator's runs, by the kernel; no conditions. -/
import Derived.Test.YtffaehgicojjmaaDoorE
namespace Go.Proofs.YtffaehgicojjmaaDoor.Ev
set_option maxRecDepth 100000
noncomputable def O0 : Nat → Option Bool := fun f => iteB (Nat.beq f (nat_lit 9)) (some true) none
theorem runs : callK F (runO l0 O0 F (nat_lit 100000)) (nat_lit 3) [] (stOf l0 5) saysTrue = .done .normal .leaf ⟨.leaf, 0, 0⟩ := by kernel_rfl
end Go.Proofs.YtffaehgicojjmaaDoor.Ev
