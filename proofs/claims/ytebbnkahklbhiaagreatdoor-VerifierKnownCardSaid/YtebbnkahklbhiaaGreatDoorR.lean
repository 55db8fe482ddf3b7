/- What the listed package variables hold, and the evaluator's runs, by the kernel; no conditions. -/
import Derived.Test.YtebbnkahklbhiaaGreatDoorS
namespace Go.Proofs.YtebbnkahklbhiaaGreatDoor.Ev
set_option maxRecDepth 100000
noncomputable def O0 : Nat → Option Bool := fun f => iteB (Nat.beq f (nat_lit 37)) (some true) none
theorem runs : callK F (runSO T0 (nat_lit 0) l0 O0 F (nat_lit 1000000)) (nat_lit 8) [] (stOf l0 6) saysTrue = .done .normal .leaf ⟨.leaf, 0, 0⟩ := by kernel_rfl
end Go.Proofs.YtebbnkahklbhiaaGreatDoor.Ev
