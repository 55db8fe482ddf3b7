/- What the listed package variables hold, and the evaluator's runs, by the kernel; no conditions. -/
import Derived.Test.YtffaehgicojjmaaDoorL
import Derived.Test.YtffaehgicojjmaaDoorR
namespace Go.Proofs.YtffaehgicojjmaaDoor.Ev
theorem known : ∀ f b, O0 f = some b → ∃ k, callK F (run F k) f [] (stOf l0 5) (saysB b) = .done .normal .leaf ⟨.leaf, 0, 0⟩ := fun f b h => by
  unfold O0 at h
  rw [iteB_eq] at h
  split at h
  · rename_i hf
    obtain rfl := beq_of hf
    cases h
    exact ⟨_, runsL⟩
  · cases h
theorem list0 : listOk l0 5 = true := by kernel_rfl
end Go.Proofs.YtffaehgicojjmaaDoor.Ev
