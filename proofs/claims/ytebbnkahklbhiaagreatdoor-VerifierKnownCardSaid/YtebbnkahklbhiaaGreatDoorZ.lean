/- What the listed package variables hold, and the evaluator's runs, by the kernel; no conditions. -/
import Derived.Test.YtebbnkahklbhiaaGreatDoorL
import Derived.Test.YtebbnkahklbhiaaGreatDoorR
namespace Go.Proofs.YtebbnkahklbhiaaGreatDoor.Ev
theorem known : ∀ f b, O0 f = some b → f < yBase ∧ ∃ k, callK F (runS T0 (nat_lit 0) F k) f [] (stOf l0 6) (saysB b) = .done .normal .leaf ⟨.leaf, 0, 0⟩ := fun f b h => by
  unfold O0 at h
  rw [iteB_eq] at h
  split at h
  · rename_i hf
    obtain rfl := Nat.eq_of_beq_eq_true hf
    cases h
    exact ⟨Nat.le_of_ble_eq_true (by kernel_rfl), _, runsL⟩
  · cases h
theorem list0 : listOk l0 6 = true := by kernel_rfl
end Go.Proofs.YtebbnkahklbhiaaGreatDoor.Ev
