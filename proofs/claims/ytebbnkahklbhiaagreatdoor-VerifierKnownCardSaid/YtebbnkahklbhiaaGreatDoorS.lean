/- What the listed package variables hold, and the evaluator's runs, by the kernel; no conditions. -/
import Derived.Test.YtebbnkahklbhiaaGreatDoorE
import Derived.Test.YtebbnkahklbhiaaGreatDoorEvF
namespace Go.Proofs.YtebbnkahklbhiaaGreatDoor.Ev
set_option maxRecDepth 100000
noncomputable def T0 : Nat → Option Nat := fun f => iteB (Nat.beq f (nat_lit 185)) (some (nat_lit 5)) (iteB (Nat.beq f (nat_lit 378)) (some (nat_lit 4)) (iteB (Nat.beq f (nat_lit 138)) (some (nat_lit 1)) (iteB (Nat.beq f (nat_lit 137)) (some (nat_lit 0)) (iteB (Nat.beq f (nat_lit 85)) (some (nat_lit 3)) (iteB (Nat.beq f (nat_lit 346)) (some (nat_lit 2)) none)))))
theorem fat : FAt F (nat_lit 0) (nat_lit 181) (nat_lit 180) (nat_lit 85) := ⟨by kernel_rfl, by kernel_rfl, by kernel_rfl, by kernel_rfl, by kernel_rfl, by kernel_rfl⟩
theorem hAdd0 : F (nat_lit 137) = some (hAdd (nat_lit 85)) := by kernel_rfl
theorem hMul0 : F (nat_lit 138) = some (hMul (nat_lit 85)) := by kernel_rfl
theorem hNeg0 : F (nat_lit 393) = some (hNeg (nat_lit 85)) := by kernel_rfl
theorem hSub0 : F (nat_lit 346) = some (hSub (nat_lit 393) (nat_lit 137)) := by kernel_rfl
theorem bl0 : Nat.blt (nat_lit 137) yBase = true ∧ Nat.blt (nat_lit 138) yBase = true ∧ Nat.blt (nat_lit 393) yBase = true ∧ Nat.blt (nat_lit 346) yBase = true := ⟨by kernel_rfl, by kernel_rfl, by kernel_rfl, by kernel_rfl⟩
theorem hpow0 : F (nat_lit 378) = some hPower := by kernel_rfl
theorem bpow : Nat.blt (nat_lit 378) yBase = true := by kernel_rfl
theorem hrnd0 : F (nat_lit 306) = some (hRound (nat_lit 378)) := by kernel_rfl
theorem brnd : Nat.blt (nat_lit 306) yBase = true := by kernel_rfl
theorem hprm0 : F (nat_lit 185) = some (hPerm (nat_lit 306)) := by kernel_rfl
theorem bprm : Nat.blt (nat_lit 185) yBase = true := by kernel_rfl
theorem sok : SOk F T0 (nat_lit 0) := fun f k h => by
  unfold T0 at h
  rw [iteB_eq] at h
  split at h
  · rename_i hf
    obtain rfl := Nat.eq_of_beq_eq_true hf
    cases h
    exact ⟨bprm, ⟨_, hprm0⟩, fun h => absurd h (by decide), (fun h => by cases h), (fun h => by cases h), fun _ st P q five h hw h1 h2 h3 h4 => sPerm hpow0 bpow hrnd0 brnd hprm0 bprm hw h1 h2 h3 h h4⟩
  rw [iteB_eq] at h
  split at h
  · rename_i hf
    obtain rfl := Nat.eq_of_beq_eq_true hf
    cases h
    exact ⟨bpow, ⟨_, hpow0⟩, fun h => absurd h (by decide), (fun h => by cases h), (fun _ st P q five x hw h1 h2 h3 => sPower hpow0 bpow hw q five h1 h2 h3), fun h => by cases h⟩
  rw [iteB_eq, iteB_eq, iteB_eq, iteB_eq] at h
  split at h
  · rename_i hf
    obtain rfl := Nat.eq_of_beq_eq_true hf
    cases h
    exact ⟨bl0.2.1, ⟨_, hMul0⟩, fun _ st x P l a b hl => (fMul fat hMul0 bl0.2.1 hl a b).imp fun v s h => ⟨⟨h.1.1, by have := h.1.2; omega⟩, h.2⟩, (fun h => by cases h), (fun h => by cases h), fun h => by cases h⟩
  · split at h
    · rename_i hf
      obtain rfl := Nat.eq_of_beq_eq_true hf
      cases h
      exact ⟨bl0.1, ⟨_, hAdd0⟩, fun _ st x P l a b hl => (fAdd fat hAdd0 bl0.1 hl a b).imp fun v s h => ⟨⟨h.1.1, by have := h.1.2; omega⟩, h.2⟩, (fun h => by cases h), (fun h => by cases h), fun h => by cases h⟩
    · split at h
      · rename_i hf
        obtain rfl := Nat.eq_of_beq_eq_true hf
        cases h
        exact ⟨fat.bp, ⟨_, fat.hp⟩, fun h => absurd h (by decide), fun _ st x P l hl => (fP fat.hv fat.bv fat.ho fat.bo fat.hp fat.bp hl).imp fun v s h => ⟨⟨h.1.1, by have := h.1.2; omega⟩, h.2⟩, (fun h => by cases h), fun h => by cases h⟩
      · split at h
        · rename_i hf
          obtain rfl := Nat.eq_of_beq_eq_true hf
          cases h
          exact ⟨bl0.2.2.2, ⟨_, hSub0⟩, fun _ st x P l a b hl => (fSub fat hAdd0 bl0.1 hNeg0 bl0.2.2.1 hSub0 bl0.2.2.2 hl a b), (fun h => by cases h), (fun h => by cases h), fun h => by cases h⟩
        · cases h
end Go.Proofs.YtebbnkahklbhiaaGreatDoor.Ev
