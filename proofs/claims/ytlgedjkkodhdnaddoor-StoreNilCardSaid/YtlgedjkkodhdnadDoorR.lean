/- What the listed package variables hold, and the evaluator's runs, by the kernel; no conditions. -/
import Derived.Test.YtlgedjkkodhdnadDoorE
namespace Go.Proofs.YtlgedjkkodhdnadDoor.Ev
set_option maxRecDepth 100000
noncomputable def O0 : Nat → Option Bool := fun f => iteB (Nat.beq f (nat_lit 17)) (some true) none
theorem runsT (a b : Int) : callK F (runO l0 O0 F (nat_lit 100000)) (nat_lit 3) [.sc (.bool true), .sc (.int .i64 a), .sc (.int .i64 b)] (stOf l0 4) saysTrue = .done .normal .leaf ⟨.leaf, 0, 0⟩ := by kernel_rfl
theorem runsF (a b : Int) : callK F (runO l0 O0 F (nat_lit 100000)) (nat_lit 3) [.sc (.bool false), .sc (.int .i64 a), .sc (.int .i64 b)] (stOf l0 4) saysTrue = .done .normal .leaf ⟨.leaf, 0, 0⟩ := by kernel_rfl
theorem runs (z : Bool) (a b : Int) : callK F (runO l0 O0 F (nat_lit 100000)) (nat_lit 3) [.sc (.bool z), .sc (.int .i64 a), .sc (.int .i64 b)] (stOf l0 4) saysTrue = .done .normal .leaf ⟨.leaf, 0, 0⟩ := by
  cases z
  · exact runsF a b
  · exact runsT a b
end Go.Proofs.YtlgedjkkodhdnadDoor.Ev
