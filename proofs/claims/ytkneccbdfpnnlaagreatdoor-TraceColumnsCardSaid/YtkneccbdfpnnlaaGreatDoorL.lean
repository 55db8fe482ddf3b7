/- What the listed package variables hold, and the evaluator's runs, by the kernel; no conditions. -/
import Derived.Test.YtkneccbdfpnnlaaGreatDoorE
namespace Go.Proofs.YtkneccbdfpnnlaaGreatDoor.Ev
set_option maxRecDepth 100000
theorem runsW:callK F (run F (nat_lit 1000000)) (nat_lit 10) [] (stOf l0 5) (saysB true)=.done .normal .leaf ⟨.leaf,0,0⟩:=by kernel_rfl
noncomputable def O0:Nat→Option Bool:=fun f=>iteB (Nat.beq f (nat_lit 10)) (some true) none
theorem known:∀ f b,O0 f=some b→f<yBase∧∃ k,callK F (run F k) f [] (stOf l0 5) (saysB b)=.done .normal .leaf ⟨.leaf,0,0⟩:=fun f b h=>by
 unfold O0 at h
 rw [iteB_eq] at h
 split at h
 ·rename_i hf
  obtain rfl:=Nat.eq_of_beq_eq_true hf
  cases h
  exact ⟨Nat.le_of_ble_eq_true (by kernel_rfl),_,runsW⟩
 ·cases h
theorem list0:listOk l0 5=true:=by kernel_rfl
end Go.Proofs.YtkneccbdfpnnlaaGreatDoor.Ev
