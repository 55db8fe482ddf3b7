/- What the listed package variables hold, and the evaluator's runs, by the kernel; no conditions. -/
import Derived.Test.YticfndhcbjcklaaDoorMd
import Derived.Test.YticfndhcbjcklaaDoorEvF
import Derived.Test.YticfndhcbjcklaaDoorEvD
namespace Go.Proofs.YticfndhcbjcklaaDoor.Ev
set_option linter.unusedSimpArgs false
set_option linter.unusedVariables false
variable {st s t : St} {n i id off : Nat}
/-! the run of programs: numbers -/
theorem same21_ok (hw : WfS st) {x y : S} {a b : List Nat} (ha : RepN st x a) (hb : RepN st y b) (hlen : a.length < 9223372036854775808) :
    Ca (cF F) 21 [.sc x, .sc y] st (fun v s => s = st ∧ v = bl (decide (a = b))) := by
  refine Ca.of (hf := cf21) rfl rfl [q0, q1] [.tmp q4] rfl rfl rfl fun Q hQ => ?_
  refine Ru.sreg (Rg.ret (Ru.seq (Ru.sreg ?_)))
  simp (disch := first | decide | omega) [lnS_sat ha, lnS_sat hb]
  refine Rg.ret (Ru.cond rfl (fun h => ?_) fun h => ?_)
  · simp at h
    refine Ru.sreg (Rg.ret (Ru.ret (hQ _ _ (.one rfl ⟨rfl, ?_⟩))))
    rw [show decide (a = b) = false from decide_eq_false fun he => h (by rw [he])]; rfl
  simp at h
  have hab : a.length = b.length := by omega
  refine Ru.skip (Ru.seq (Ru.sreg (Rg.ret ?_)))
  refine Ru.block (Ru.loop (fun i : Nat => a.length - i) (fun i ρ s => s = st ∧ i ≤ a.length ∧ ρ q0 = .sc x ∧ ρ q1 = .sc y ∧ ρ q5 = iv i ∧ a.take i = b.take i)
    ⟨0, rfl, Nat.zero_le _, rfl, rfl, rfl, rfl⟩ fun i ρ s' hI => ?_)
  obtain ⟨rfl, hi, e0, e1, e5, ht⟩ := hI
  refine Ru.seq (Ru.sreg ?_)
  simp (disch := first | decide | omega) [e0, e5, lnS_sat ha]
  refine Rg.ret (Ru.cond rfl (fun h => ?_) fun h => Ru.exit ?_)
  rotate_left
  · simp at h
    simp only [Then, Out, if_true]
    refine Ru.sreg (Rg.ret (Ru.ret (hQ _ _ (.one rfl ⟨rfl, ?_⟩))))
    have : i = a.length := by omega
    subst this
    rw [List.take_length, hab, List.take_length] at ht
    rw [decide_eq_true ht]; rfl
  simp at h
  have hlt : i < a.length := by omega
  have hgi := List.getElem?_eq_getElem hlt
  have hgj := List.getElem?_eq_getElem (l := b) (i := i) (by omega)
  generalize a[i] = p at hgi
  generalize b[i] = q at hgj
  obtain ⟨id1, o1, hx1, hc1, _⟩ := elt1 ha hgi
  obtain ⟨id2, o2, hx2, hc2, _⟩ := elt1 hb hgj
  refine Ru.skip (Ru.seq (Ru.block (Ru.sdrw ?_)))
  simp (disch := first | decide | omega) [e0, e1, e5, hx1, hx2, hc1, hc2]
  refine Rg.ret (Ru.cond rfl (fun h => ?_) fun h => ?_)
  · simp at h
    refine Ru.sreg (Rg.ret (Ru.ret (hQ _ _ (.one rfl ⟨rfl, ?_⟩))))
    rw [show decide (a = b) = false from decide_eq_false fun he => h (by subst he; rw [hgi] at hgj; cases hgj; rfl)]; rfl
  · simp at h
    refine Ru.skip ?_
    show Ru (cF F) (.reg _ _) _ _ _
    refine Ru.reg ?_
    simp (disch := first | decide | omega) [e5]
    refine Rg.ret ⟨i + 1, by omega, rfl, by omega, ?_, ?_, rfl, ?_⟩
    · simp (disch := first | decide | omega) [e0]
    · simp (disch := first | decide | omega) [e1]
    · rw [List.take_add_one, List.take_add_one, ht, hgi, hgj, h]

theorem fat : FAt F 0 46 67 54 := ⟨rfl, rfl, rfl, rfl, rfl, rfl⟩
theorem line_of (h : Glo st) {x : Int} (h0 : 0 ≤ x) (h4 : x < 4) : ∃ l, Lies st 0 x.toNat (pC x.toNat) l ∧ ((x.toNat : Nat) : Int) = x := by
  obtain ⟨l, hl⟩ := h.line x.toNat (by omega)
  exact ⟨l, hl, by omega⟩
theorem mul_ok (h : Glo st) {x : Int} (h0 : 0 ≤ x) (h4 : x < 4) (A B : Nat) : Ca (cF F) 57 [iv x, uv A, uv B] st (fun v s => Fr st s ∧ v = uv (fmul (pC x.toNat) A B)) := by
  obtain ⟨l, hl, e⟩ := line_of h h0 h4
  have := fMul fat (m := 57) rfl rfl hl A B
  rw [e] at this
  exact this.imp fun v s h => ⟨h.1.1, h.2⟩
theorem add_ok (h : Glo st) {x : Int} (h0 : 0 ≤ x) (h4 : x < 4) (A B : Nat) : Ca (cF F) 60 [iv x, uv A, uv B] st (fun v s => Fr st s ∧ v = uv (fadd (pC x.toNat) A B)) := by
  obtain ⟨l, hl, e⟩ := line_of h h0 h4
  have := fAdd fat (a := 60) rfl rfl hl A B
  rw [e] at this
  exact this.imp fun v s h => ⟨h.1.1, h.2⟩
theorem neg_ok (h : Glo st) {x : Int} (h0 : 0 ≤ x) (h4 : x < 4) (A : Nat) : Ca (cF F) 39 [iv x, uv A] st (fun v s => Fr st s ∧ v = uv (fneg (pC x.toNat) A)) := by
  obtain ⟨l, hl, e⟩ := line_of h h0 h4
  have := fNeg fat (n := 39) rfl rfl hl A
  rw [e] at this
  exact this.imp fun v s h => ⟨h.1.1, h.2⟩
theorem reduce_ok (h : Glo st) {x : Int} (h0 : 0 ≤ x) (h4 : x < 4) (A : Nat) : Ca (cF F) 35 [iv x, uv A] st (fun v s => Fr st s ∧ v = uv (A % pC x.toNat)) := by
  refine Ca.of (hf := cf35) rfl rfl [q0, q1] [.tmp q4] rfl rfl rfl fun Q hQ => ?_
  have hp := pC_pos x.toNat
  refine Ru.rs fun P hP => Rg.ret (hP _ _ ?_)
  clear hP P
  refine Ru.seq (Ru.rs fun P hP => ?_)
  simp -implicitDefEqProofs (disch := first | decide | omega)
  refine Rg.call (valid46 x st) fun v s hv => ?_
  obtain ⟨hs, b, rfl, hb⟩ := hv
  subst s
  rw [hb.2 ⟨h0, h4⟩]
  simp -implicitDefEqProofs (disch := first | decide | omega)
  refine Rg.ret (hP _ _ (Ru.cond rfl (fun h => by cases h) fun _ => Ru.skip ?_))
  clear hP P
  refine Ru.rs fun P hP => ?_
  simp -implicitDefEqProofs (disch := first | decide | omega)
  refine Rg.call (P_ok h h0 h4) fun v s hv => ?_
  obtain ⟨k, rfl⟩ := hv
  simp -implicitDefEqProofs (disch := first | decide | omega)
  exact Rg.ret (hP _ _ (Ru.ret (hQ _ _ (.one rfl ⟨k, rfl⟩))))
theorem elements_ok (h : Glo st) {x : Int} (h0 : 0 ≤ x) (h4 : x < 4) {y : S} {a : List Nat} (ha : RepN st y a) (hlen : a.length < 9223372036854775808) :
    Ca (cF F) 36 [iv x, .sc y] st (fun v s => Fr st s ∧ ∃ b, v = bl b ∧ (b = true ↔ ∀ k ∈ a, k < pC x.toNat)) := by
  refine Ca.of (hf := cf36) rfl rfl [q0, q1] [.tmp q4] rfl rfl rfl fun Q hQ => ?_
  refine Ru.rs fun P hP => Rg.ret (hP _ _ ?_)
  clear hP P
  refine Ru.rs fun P hP => ?_
  by_cases hz : a.length = 0
  · simp -implicitDefEqProofs (disch := first | decide | omega) [lnS_sat ha]
    refine Rg.ret (hP _ _ (Ru.ret (hQ _ _ (.one rfl ⟨Fr.refl h.wf, true, rfl, by rw [List.eq_nil_of_length_eq_zero hz]; simp⟩))))
  simp -implicitDefEqProofs (disch := first | decide | omega) [lnS_sat ha]
  refine Rg.call (maxU_ok h.wf ha hlen (by omega)) fun v s hv => ?_
  obtain ⟨hs, k, rfl, hk, hm⟩ := hv
  subst s
  refine Rg.call (P_ok h h0 h4) fun v s hv => ?_
  obtain ⟨k2, rfl⟩ := hv
  simp -implicitDefEqProofs (disch := first | decide | omega)
  refine Rg.ret (hP _ _ (Ru.ret (hQ _ _ (.one rfl ⟨k2, _, rfl, ?_⟩))))
  simp only [ltN_t]
  exact ⟨fun h y hy => Nat.lt_of_le_of_lt (hm y hy) h, fun h => h k hk⟩
end Go.Proofs.YticfndhcbjcklaaDoor.Ev
namespace Go.Proofs.YticfndhcbjcklaaDoor.Ev
set_option linter.unusedSimpArgs false
set_option linter.unusedVariables false
variable {st s t : St} {n i id off : Nat}
/-! inverses -/
@[simp] theorem iquoN (a b : Nat) (K : V → R) (h : 0 < b) (h' : a < 9223372036854775808) : binK .quo (iv a) (iv b) K = K (iv ((a / b : Nat) : Int)) := by
  have e : intEq (b : Int) 0 = false := by rw [intEq_eq]; simp; omega
  have hd : a / b ≤ a := Nat.div_le_self a b
  have h1 : binK .quo (iv a) (iv b) K = quoK .i64 (a : Int) (b : Int) K := rfl
  rw [h1]
  unfold quoK
  rw [e, iteB_false, intK_eq, show Int.tdiv (a : Int) (b : Int) = ((a / b : Nat) : Int) from rfl, wrap_i64 (by omega)]; rfl
theorem imul' (a b : Int) (K : V → R) (h : -9223372036854775808 ≤ a * b) (h' : a * b < 9223372036854775808) : binK .mul (iv a) (iv b) K = K (iv (a * b)) := by
  rw [show binK .mul (iv a) (iv b) K = _ from bin_mul _ _ _ _, wrap_i64' h h']; rfl
def invL (r0 r1 : Nat) (t0 t1 : Int) : Int := if h : r1 = 0 then t0 else invL r1 (r0 % r1) t1 (t0 - (r0 / r1 : Nat) * t1)
termination_by r1
decreasing_by exact Nat.mod_lt _ (by omega)
def invV (P a : Nat) : Nat := if a % P = 0 then 0 else (if invL P (a % P) 0 1 < 0 then invL P (a % P) 0 1 + P else invL P (a % P) 0 1).toNat
theorem inv_ok (h : Glo st) {x : Int} (h0 : 0 ≤ x) (h4 : x < 4) (A : Nat) : Ca (cF F) 58 [iv x, uv A] st (fun v s => Fr st s ∧ v = uv (invV (pC x.toNat) A)) := by
  refine Ca.of (hf := cf58) rfl rfl [q0, q1] [.tmp q4] rfl rfl rfl fun Q hQ => ?_
  have hp := pC_pos x.toNat
  have hpl := pC_lt x.toNat
  refine Ru.rs fun P hP => Rg.ret (hP _ _ ?_)
  clear hP P
  refine Ru.rs fun P hP => ?_
  simp -implicitDefEqProofs (disch := first | decide | omega)
  refine Rg.call (P_ok h h0 h4) fun v s hv => ?_
  obtain ⟨k, rfl⟩ := hv
  generalize hPP : pC x.toNat = M at *
  have hml := Nat.mod_lt A hp
  refine Rg.ret (hP _ _ ?_)
  clear hP P
  refine Ru.seq (Ru.rs fun P hP => ?_)
  simp -implicitDefEqProofs (disch := first | decide | omega)
  refine Rg.ret (hP _ _ (Ru.cond rfl (fun hh => ?_) fun hh => Ru.skip ?_))
  · simp at hh
    refine Ru.sreg (Rg.ret (Ru.ret (hQ _ _ (.one rfl ⟨k, ?_⟩))))
    unfold invV; rw [if_pos hh]; rfl
  clear hP P
  simp at hh
  simp only [Then, Out]
  refine Ru.ds fun P hP => ?_
  simp -implicitDefEqProofs (disch := first | decide | omega)
  refine Rg.ret (hP _ _ ?_)
  clear hP P
  refine Ru.rs fun P hP => Rg.ret (hP _ _ ?_)
  clear hP P
  refine Ru.at (fun ρ => ρ q5 = uv M ∧ ρ q6 = iv M ∧ ρ q7 = iv (A % M : Nat) ∧ ρ q8 = iv 0 ∧ ρ q9 = iv 1) ⟨rfl, rfl, rfl, rfl, rfl⟩ fun ρ0 hE => ?_
  obtain ⟨e5, e6, e7, e8, e9⟩ := hE
  refine Ru.seq (Ru.block (Ru.lp [q5] (fun r : Nat × Nat × Int × Int => r.2.1) (fun r ρ s' => s' = s ∧ ρ q6 = iv r.1 ∧ ρ q7 = iv r.2.1 ∧ ρ q8 = iv r.2.2.1 ∧ ρ q9 = iv r.2.2.2 ∧ r.2.1 < r.1 ∧ r.1 ≤ M ∧ invL M (A % M) 0 1 = invL r.1 r.2.1 r.2.2.1 r.2.2.2 ∧
      ∃ a b : Nat, a ≤ M ∧ b * r.1 + a * r.2.1 = M ∧ ((r.2.2.1 = a ∧ r.2.2.2 = -(b : Int)) ∨ (r.2.2.1 = -(a : Int) ∧ r.2.2.2 = b)))
    ⟨(M, A % M, 0, 1), rfl, e6, e7, e8, e9, hml, Nat.le_refl _, rfl, 0, 1, by omega, by omega, .inr ⟨rfl, rfl⟩⟩ fun r ρ s' hk hI => ?_))
  clear e6 e7 e8 e9
  obtain ⟨r0, r1, t0, t1⟩ := r
  obtain ⟨hs, e6, e7, e8, e9, hlt, hr0, hinv, a, b, ha, hb, hsg⟩ := hI
  subst s'
  simp only at e6 e7 e8 e9 hlt hr0 hinv hb hsg
  refine Ru.seq (Ru.rs fun P hP => ?_)
  simp -implicitDefEqProofs (disch := first | decide | omega) [e7]
  refine Rg.ret (hP _ _ ?_)
  clear hP P
  refine Ru.cond rfl (fun h => Ru.skip ?_) fun h => Ru.exit ?_
  · simp at h
    have hr1 : 0 < r1 := by omega
    simp only [Then, Out]
    have hbr : b * r0 ≤ M := by omega
    have hb1 : b ≤ M := by
      rcases Nat.eq_zero_or_pos b with h | h
      · omega
      · exact Nat.le_trans (Nat.le_mul_of_pos_right b (by omega)) hbr
    have hq0 : r0 / r1 ≤ r0 := Nat.div_le_self _ _
    have hqb : b * (r0 / r1) ≤ M := Nat.le_trans (Nat.mul_le_mul_left b hq0) hbr
    have hdm := Nat.div_add_mod r0 r1
    have hmm := Nat.mod_lt r0 hr1
    generalize hq : r0 / r1 = q at *
    generalize hm : r0 % r1 = m at *
    have hqr : r1 * q ≤ r0 := by omega
    have eqb : (q : Int) * t1 = ((b * q : Nat) : Int) ∨ (q : Int) * t1 = -((b * q : Nat) : Int) := by
      rcases hsg with ⟨_, h⟩ | ⟨_, h⟩
      · exact .inr (by rw [h, Int.mul_neg, Int.natCast_mul, Int.mul_comm])
      · exact .inl (by rw [h, Int.natCast_mul, Int.mul_comm])
    have eqr : (q : Int) * (r1 : Int) = ((r1 * q : Nat) : Int) := by rw [Int.natCast_mul, Int.mul_comm]
    have ht0 : t0 = a ∨ t0 = -(a : Int) := by rcases hsg with ⟨h, _⟩ | ⟨h, _⟩; exact .inl h; exact .inr h
    have m1 : ∀ K : V → R, binK .mul (iv (q : Int)) (iv (r1 : Int)) K = K (iv ((q : Int) * (r1 : Int))) := fun K => imul' _ _ K (by rw [eqr]; omega) (by rw [eqr]; omega)
    have m2 : ∀ K : V → R, binK .mul (iv (q : Int)) (iv t1) K = K (iv ((q : Int) * t1)) := fun K => imul' _ _ K (by rcases eqb with h | h <;> rw [h] <;> omega) (by rcases eqb with h | h <;> rw [h] <;> omega)
    refine Ru.block (Ru.rs fun P hP => ?_)
    have hqi : (r0 : Int) / (r1 : Int) = (q : Int) := by rw [← hq]; rfl
    simp -implicitDefEqProofs (disch := first | decide | omega) [e6, e7, hqi]
    refine Rg.ret (hP _ _ ?_)
    clear hP P
    refine Ru.rs fun P hP => ?_
    simp -implicitDefEqProofs (disch := first | decide | omega) [e6, e7, m1]
    refine Rg.ret (hP _ _ ?_)
    clear hP P
    refine Ru.r1 fun P hP => ?_
    simp -implicitDefEqProofs (disch := first | decide | (rcases eqb with h | h <;> rcases ht0 with h2 | h2 <;> rw [h] <;> omega) | omega) [e8, e9, m2]
    have hrm : (r0 : Int) - (q : Int) * (r1 : Int) = (m : Int) := by rw [eqr]; omega
    refine Rg.ret (hP _ _ ?_)
    clear hP P
    refine ⟨by repeat first | exact hk | refine Keep.up (by rfl) ?_, (r1, m, t1, t0 - (q : Int) * t1), hmm, rfl, ?_, ?_, ?_, ?_, hmm, by show r1 ≤ M; omega, ?_, b, a + b * q, hb1, ?_, ?_⟩
    · simp (disch := first | decide | omega) [e7]
    · simp (disch := first | decide | omega) [hrm]
    · simp (disch := first | decide | omega)
    · simp (disch := first | decide | omega)
    · rw [hinv, invL, dif_neg (by omega), hq, hm]
    · show (a + b * q) * r1 + b * m = M
      have : b * r0 = b * (r1 * q) + b * m := by rw [← Nat.mul_add, hdm]
      rw [Nat.add_mul, Nat.mul_assoc b q r1, Nat.mul_comm q r1]; omega
    · show (t1 = (b : Int) ∧ t0 - (q : Int) * t1 = -((a + b * q : Nat) : Int)) ∨ (t1 = -(b : Int) ∧ t0 - (q : Int) * t1 = ((a + b * q : Nat) : Int))
      rcases hsg with ⟨h1, h2⟩ | ⟨h1, h2⟩
      · refine .inr ⟨h2, ?_⟩
        have : (q : Int) * t1 = -((b * q : Nat) : Int) := by rw [h2, Int.mul_neg, Int.natCast_mul, Int.mul_comm]
        rw [this]; omega
      · refine .inl ⟨h2, ?_⟩
        have : (q : Int) * t1 = ((b * q : Nat) : Int) := by rw [h2, Int.natCast_mul, Int.mul_comm]
        rw [this]; omega
  simp at h
  have hr1 : r1 = 0 := by omega
  subst hr1
  rw [show invL r0 0 t0 t1 = t0 by rw [invL, dif_pos rfl]] at hinv
  simp only [Then, Out, if_true]
  have ht0 : t0 = a ∨ t0 = -(a : Int) := by rcases hsg with ⟨h, _⟩ | ⟨h, _⟩; exact .inl h; exact .inr h
  have hres : invV M A = (if t0 < 0 then t0 + M else t0).toNat := by unfold invV; rw [if_neg hh, ← hinv]
  refine Ru.seq (Ru.rs fun P hP => ?_)
  simp -implicitDefEqProofs (disch := first | decide | omega) [e8]
  refine Rg.ret (hP _ _ ?_)
  clear hP P
  refine Ru.cond rfl (fun h => ?_) fun h => Ru.skip ?_
  · simp at h
    refine Ru.r1 fun P hP => ?_
    simp -implicitDefEqProofs (disch := first | decide | omega) [hk.e, e5, e8]
    refine Rg.ret (hP _ _ ?_)
    clear hP P
    simp only [Then, Out]
    refine Ru.rs fun P hP => ?_
    simp -implicitDefEqProofs (disch := first | decide | omega)
    refine Rg.ret (hP _ _ (Ru.ret (hQ _ _ (.one rfl ⟨k, ?_⟩))))
    rw [hres, if_pos h]; rfl
  · simp at h
    simp only [Then, Out]
    refine Ru.rs fun P hP => ?_
    simp -implicitDefEqProofs (disch := first | decide | omega) [e8]
    refine Rg.ret (hP _ _ (Ru.ret (hQ _ _ (.one rfl ⟨k, ?_⟩))))
    rw [hres, if_neg (by omega)]; rfl
theorem div_ok (h : Glo st) {x : Int} (h0 : 0 ≤ x) (h4 : x < 4) (A B : Nat) : Ca (cF F) 40 [iv x, uv A, uv B] st (fun v s => Fr st s ∧ v = uv (fmul (pC x.toNat) A (invV (pC x.toNat) B))) := by
  refine Ca.of (hf := cf40) rfl rfl [q0, q1, q2] [.tmp q6] rfl rfl rfl fun Q hQ => ?_
  refine Ru.rs fun P hP => Rg.ret (hP _ _ ?_)
  clear hP P
  refine Ru.rs fun P hP => ?_
  simp -implicitDefEqProofs (disch := first | decide | omega)
  refine Rg.call (inv_ok h h0 h4 B) fun v s hv => ?_
  obtain ⟨k, rfl⟩ := hv
  refine Rg.call (mul_ok (h.fr k) h0 h4 A _) fun v s2 hv => ?_
  obtain ⟨k2, rfl⟩ := hv
  exact Rg.ret (hP _ _ (Ru.ret (hQ _ _ (.one rfl ⟨k.trans k2, rfl⟩))))
end Go.Proofs.YticfndhcbjcklaaDoor.Ev
namespace Go.Proofs.YticfndhcbjcklaaDoor.Ev
set_option linter.unusedSimpArgs false
set_option linter.unusedVariables false
variable {st s t : St} {n i id off : Nat}
/-! the sponge's round -/
def gN (x : Nat) : Nat := if x = 0 then 5 else if x = 1 then 3 else if x = 2 then 11 else 3
def eN (x : Nat) : Nat := if x = 0 then 5 else if x = 1 then 3 else if x = 2 then 5 else 3
structure Glo2 (st : St) : Prop where
  glo : Glo st
  row : ∀ x, x < 4 → ∃ w z, Lies st 0 x (pC x) [us (gN x), w, is (eN x), z]
theorem Glo2.fr (h : Glo2 s) (k : Fr s t) : Glo2 t := ⟨h.glo.fr k, fun x hx => by obtain ⟨w, z, hl⟩ := h.row x hx; exact ⟨w, z, hl.fr k⟩⟩
theorem Glo2.low (h : Glo2 s) (n : Nat) : Glo2 (setLow s n) := by
  refine ⟨h.glo.low n, fun x hx => ?_⟩
  obtain ⟨w, z, hl⟩ := h.row x hx
  refine ⟨w, z, by have := h.glo.wf; cases s; exact this, hl.xlt, ?_, hl.pos, hl.lt⟩
  have := hl.line
  cases s; exact this
theorem row_of (h : Glo2 st) {x : Int} (h0 : 0 ≤ x) (h4 : x < 4) : ∃ w z, Lies st 0 x.toNat (pC x.toNat) [us (gN x.toNat), w, is (eN x.toNat), z] ∧ ((x.toNat : Nat) : Int) = x := by
  obtain ⟨w, z, hl⟩ := h.row x.toNat (by omega)
  exact ⟨w, z, hl, by omega⟩
theorem gN_lt (x : Nat) : gN x < pC x := by unfold gN pC; (repeat' split) <;> omega
theorem pC_five (x : Nat) : 5 < pC x := by unfold pC; (repeat' split) <;> omega
theorem gener_ok (h : Glo2 st) {x : Int} (h0 : 0 ≤ x) (h4 : x < 4) : Ca (cF F) 77 [iv x] st (fun v s => Fr st s ∧ v = uv (gN x.toNat)) := by
  obtain ⟨w, z, hl, e⟩ := row_of h h0 h4
  refine Ca.of (hf := cf77) rfl rfl [q0] [.tmp q2] rfl rfl rfl fun Q hQ => ?_
  refine Ru.sreg (Rg.ret ?_)
  refine Ru.sreg ?_
  simp (disch := first | decide | omega)
  have := fOf (F := F) (v := 46) rfl rfl (o := 67) rfl rfl hl
  rw [e] at this
  refine Rg.call this fun v s h => ?_
  obtain ⟨h1, rfl⟩ := h
  exact Rg.ret (Ru.ret (hQ _ _ (.one rfl ⟨h1.1, rfl⟩)))
theorem expo_ok (h : Glo2 st) {x : Int} (h0 : 0 ≤ x) (h4 : x < 4) : Ca (cF F) 78 [iv x] st (fun v s => Fr st s ∧ v = iv (eN x.toNat)) := by
  obtain ⟨w, z, hl, e⟩ := row_of h h0 h4
  refine Ca.of (hf := cf78) rfl rfl [q0] [.tmp q2] rfl rfl rfl fun Q hQ => ?_
  refine Ru.sreg (Rg.ret ?_)
  refine Ru.sreg ?_
  simp (disch := first | decide | omega)
  have := fOf (F := F) (v := 46) rfl rfl (o := 67) rfl rfl hl
  rw [e] at this
  refine Rg.call this fun v s h => ?_
  obtain ⟨h1, rfl⟩ := h
  exact Rg.ret (Ru.ret (hQ _ _ (.one rfl ⟨h1.1, rfl⟩)))
/-! powers -/
def powL (P y a e : Nat) : Nat := if h : e = 0 then y else powL P (if e % 2 = 1 then fmul P y a else y) (fmul P a a) (e / 2)
termination_by e
decreasing_by omega
theorem fmul_lt {P : Nat} (h : 0 < P) (a b : Nat) : fmul P a b < P := Nat.mod_lt _ h
theorem powL_lt {P : Nat} (h : 0 < P) : ∀ (e y a : Nat), y < P → powL P y a e < P := by
  intro e
  induction e using Nat.strongRecOn with
  | _ e ih =>
    intro y a hy
    rw [powL]
    split
    · exact hy
    · exact ih (e / 2) (by omega) _ _ (by split; exact fmul_lt h _ _; exact hy)
theorem pow_ok (hg : Glo st) {x : Int} (h0 : 0 ≤ x) (h4 : x < 4) (A E : Nat) (hE : E < 18446744073709551616) : Ca (cF F) 71 [iv x, uv A, uv E] st (fun v s => Fr st s ∧ v = uv (powL (pC x.toNat) 1 A E)) := by
  refine Ca.of (hf := cf71) rfl rfl [q0, q1, q2] [.tmp q6] rfl rfl rfl fun Q hQ => ?_
  refine Ru.rs fun P hP => Rg.ret (hP _ _ ?_)
  clear hP P
  refine Ru.seq (Ru.rs fun P hP => ?_)
  simp -implicitDefEqProofs (disch := first | decide | omega)
  refine Rg.call (valid46 x st) fun v s hv => ?_
  obtain ⟨hs, b, rfl, hb⟩ := hv
  subst s
  rw [hb.2 ⟨h0, h4⟩]
  simp -implicitDefEqProofs (disch := first | decide | omega)
  refine Rg.ret (hP _ _ (Ru.cond rfl (fun h => by cases h) fun _ => Ru.skip ?_))
  clear hP P
  simp only [Then, Out]
  refine Ru.rs fun P hP => Rg.ret (hP _ _ ?_)
  clear hP P
  refine Ru.at (fun ρ => ρ q0 = iv x ∧ ρ q1 = uv A ∧ ρ q2 = uv E ∧ ρ q7 = uv 1) ⟨rfl, rfl, rfl, rfl⟩ fun ρ0 hE => ?_
  obtain ⟨e0, e1, e2, e7⟩ := hE
  refine Ru.seq (Ru.block (Ru.lp [q0] (fun r : Nat × Nat × Nat => r.2.2) (fun r ρ s => Fr st s ∧ ρ q7 = uv r.1 ∧ ρ q1 = uv r.2.1 ∧ ρ q2 = uv r.2.2 ∧ r.2.2 < 18446744073709551616 ∧ powL (pC x.toNat) 1 A E = powL (pC x.toNat) r.1 r.2.1 r.2.2)
    ⟨(1, A, E), Fr.refl hg.wf, e7, e1, e2, hE, rfl⟩ fun r ρ s hk hI => ?_))
  clear e1 e2 e7
  obtain ⟨y, a, e⟩ := r
  obtain ⟨k, e7, e1, e2, he, hp⟩ := hI
  simp only at e7 e1 e2 he hp
  refine Ru.seq (Ru.rs fun P hP => ?_)
  simp -implicitDefEqProofs (disch := first | decide | omega) [e2]
  refine Rg.ret (hP _ _ ?_)
  clear hP P
  refine Ru.cond rfl (fun h => Ru.skip ?_) fun h => Ru.exit ?_
  rotate_left
  · simp at h
    subst h
    simp only [Then, Out, if_true]
    refine Ru.sreg (Rg.ret (Ru.ret (hQ _ _ (.one (v := uv y) (by simp (disch := first | decide | omega) [e7]) ⟨k, ?_⟩))))
    rw [hp, powL, dif_pos rfl]
  simp at h
  simp only [Then, Out]
  have hand : e &&& 1 = e % 2 := Nat.and_one_is_mod e
  have fin : ∀ (ρ' : Ev) (t : St) (y' : Nat), Keep [q0] ρ' ρ0 → Fr st t → ρ' q7 = uv y' → ρ' q1 = uv a → ρ' q2 = uv e → y' = (if e % 2 = 1 then fmul (pC x.toNat) y a else y) →
      ∀ (Q' : X → Ev → St → Prop), (∀ ρ'' t' , Keep [q0] ρ'' ρ0 → Fr st t' → ρ'' q7 = uv y' → ρ'' q1 = uv (fmul (pC x.toNat) a a) → ρ'' q2 = uv e → Q' .normal ρ'' t') → Ru (cF F) (.reg [q1] fun c r s K => c n57 [(r q0), (r q1), (r q1)] s fun v0 s => K [v0] s) ρ' t Q' := by
    intro ρ' t y' hk k e7 e1 e2 hy Q' hQ'
    refine Ru.r1 fun P hP => ?_
    simp -implicitDefEqProofs (disch := first | decide | omega) [hk.e, e0, e1]
    refine Rg.call (mul_ok (hg.fr k) h0 h4 a a) fun v s hv => ?_
    obtain ⟨k2, rfl⟩ := hv
    exact Rg.ret (hP _ _ (hQ' _ _ (by repeat first | exact hk | refine Keep.up (by rfl) ?_) (k.trans k2) (by simp (disch := first | decide | omega) [e7]) rfl (by simp (disch := first | decide | omega) [e2])))
  have last : ∀ (y' : Nat), y' = (if e % 2 = 1 then fmul (pC x.toNat) y a else y) → ∀ ρ'' t', Keep [q0] ρ'' ρ0 → Fr st t' → ρ'' q7 = uv y' → ρ'' q1 = uv (fmul (pC x.toNat) a a) → ρ'' q2 = uv e →
      Ru (cF F) (.reg [q2] fun c r s K => xS false (r q2) U1 c r s fun v0 s => K [v0] s) ρ'' t' (Then (fun ρ'' s => Keep [q0] ρ'' ρ0 ∧ ∃ r : Nat × Nat × Nat, r.2.2 < e ∧ Fr st s ∧ ρ'' q7 = uv r.1 ∧ ρ'' q1 = uv r.2.1 ∧ ρ'' q2 = uv r.2.2 ∧ r.2.2 < 18446744073709551616 ∧ powL (pC x.toNat) 1 A E = powL (pC x.toNat) r.1 r.2.1 r.2.2) (Out n0 (Then (fun ρ s => Ru (cF F) (.seq (.reg [q6] fun c r s K => K [(r q7)] s) .ret) ρ s Q) Q))) := by
    intro y' hy ρ'' t' hk k e7 e1 e2
    refine Ru.r1 fun P hP => ?_
    simp -implicitDefEqProofs (disch := first | decide | omega) [e2]
    refine Rg.ret (hP _ _ ⟨by repeat first | exact hk | refine Keep.up (by rfl) ?_, (y', fmul (pC x.toNat) a a, e / 2), by show e / 2 < e; omega, k, by simp (disch := first | decide | omega) [e7], by simp (disch := first | decide | omega) [e1], by simp (disch := first | decide | omega), by show e / 2 < _; omega, ?_⟩)
    rw [hp, powL, dif_neg (by omega), hy]
  refine Ru.seq (Ru.block (Ru.seq (Ru.rs fun P hP => ?_)))
  simp -implicitDefEqProofs (disch := first | decide | omega) [e2, hand]
  refine Rg.ret (hP _ _ ?_)
  clear hP P
  refine Ru.cond rfl (fun h => ?_) fun h => Ru.skip ?_
  · simp at h
    refine Ru.r1 fun P hP => ?_
    simp -implicitDefEqProofs (disch := first | decide | omega) [hk.e, e0, e1, e7]
    refine Rg.call (mul_ok (hg.fr k) h0 h4 y a) fun v s hv => ?_
    obtain ⟨k2, rfl⟩ := hv
    refine Rg.ret (hP _ _ ?_)
    clear hP P
    simp only [Then, Out]
    refine fin _ _ (fmul (pC x.toNat) y a) (by repeat first | exact hk | refine Keep.up (by rfl) ?_) (k.trans k2) rfl (by simp (disch := first | decide | omega) [e1]) (by simp (disch := first | decide | omega) [e2]) (by rw [if_pos h]) _ fun ρ'' t' a1 a2 a3 a4 a5 => last _ (by rw [if_pos h]) ρ'' t' a1 a2 a3 a4 a5
  · simp at h
    simp only [Then, Out]
    refine fin _ _ y (by repeat first | exact hk | refine Keep.up (by rfl) ?_) k (by simp (disch := first | decide | omega) [e7]) (by simp (disch := first | decide | omega) [e1]) (by simp (disch := first | decide | omega) [e2]) (by rw [if_neg (by omega)]) _ fun ρ'' t' a1 a2 a3 a4 a5 => last _ (by rw [if_neg (by omega)]) ρ'' t' a1 a2 a3 a4 a5
end Go.Proofs.YticfndhcbjcklaaDoor.Ev
namespace Go.Proofs.YticfndhcbjcklaaDoor.Ev
set_option linter.unusedSimpArgs false
set_option linter.unusedVariables false
variable {st s t : St} {n i id off : Nat}
theorem resP.tmpCells {p q : Pth} {n : Nat} {ρ : Ev} {st : St} {P : V → St → Prop} {id off : Nat} {l : List S} {b : S} (hb : ρ p = .sc b) (hp : ρ q = .sc (.ptr id off)) (hr : rdN st id off (n + 1) = some l) (h : P (.tup [(false, [b]), (true, l)]) st) : resP [.tmp p, .cellN (n + 1) q] ρ st P :=
  ⟨_, h, fun K tm ht => by
    show asPtr 91 (rho tm q) (fun id off => loadNK st (n + 1) id off fun v => fin1 K st [rho tm p, v]) = _
    rw [ht, hp, hb]
    show loadNK st (n + 1) id off _ = _
    rw [loadNK_eq, hr]; rfl⟩
abbrev fourC (f : Nat → Nat) : List S := [us (f 0), us (f 1), us (f 2), us (f 3)]
theorem fourC_set (f g : Nat → Nat) (j : Nat) (h : j < 4) : (fourC fun i => if i < j then g i else f i).set j (us (g j)) = fourC fun i => if i < j + 1 then g i else f i := by
  rcases (show j = 0 ∨ j = 1 ∨ j = 2 ∨ j = 3 by omega) with rfl | rfl | rfl | rfl <;> rfl
theorem fourC_get (f : Nat → Nat) (j : Nat) (h : j < 4) : (fourC f)[j]? = some (us (f j)) := by
  rcases (show j = 0 ∨ j = 1 ∨ j = 2 ∨ j = 3 by omega) with rfl | rfl | rfl | rfl <;> rfl
def fvB (x : Nat) : Bool := eqI (eN x) 5
abbrev mixC (x : Nat) : List S := [us (pC x), us (gN x), .bool (fvB x)]
theorem known_ok (f r : Int) (st : St) (h0 : 0 ≤ f) (h4 : f < 4) (r0 : 0 ≤ r) (r8 : r < 8) : Ca (cF F) 68 [iv f, iv r] st (fun v s => s = st ∧ v = bl true) := by
  refine Ca.of (hf := cf68) rfl rfl [q0, q1] [.tmp q4] rfl rfl rfl fun Q hQ => ?_
  refine Ru.rs fun P hP => Rg.ret (hP _ _ ?_)
  clear hP P
  refine Ru.rs fun P hP => ?_
  simp -implicitDefEqProofs (disch := first | decide | omega)
  refine Rg.call (valid46 f st) fun v s hv => ?_
  obtain ⟨hs, b, rfl, hb⟩ := hv
  subst s
  rw [hb.2 ⟨h0, h4⟩]
  simp -implicitDefEqProofs (disch := first | decide | omega)
  exact Rg.ret (hP _ _ (Ru.ret (hQ _ _ (.one rfl ⟨rfl, rfl⟩))))
theorem in_ok (h : Glo2 st) {x : Int} (h0 : 0 ≤ x) (h4 : x < 4) : Ca (cF F) 69 [iv x] st (fun v s => Fr st s ∧ v = .agg (mixC x.toNat)) := by
  refine Ca.of (hf := cf69) rfl rfl [q0] [.cellN n3 q2] rfl rfl rfl fun Q hQ => ?_
  have f1 : Fr st (new st [us 0, us 0, .bool false]) := (Fr.refl h.glo.wf).new _
  have b1 : Bx (new st [us 0, us 0, .bool false]) st.next [us 0, us 0, .bool false] := Bx.new
  refine Ru.rs fun P hP => ?_
  simp -implicitDefEqProofs (disch := first | decide | omega)
  refine Rg.ret (hP _ _ ?_)
  clear hP P
  generalize new st [us 0, us 0, .bool false] = s1 at *
  refine Ru.rs fun P hP => ?_
  simp -implicitDefEqProofs (disch := first | decide | omega)
  refine Rg.call (P_ok (h.fr f1).glo h0 h4) fun v s2 hv => ?_
  obtain ⟨k2, rfl⟩ := hv
  refine Rg.call (gener_ok ((h.fr f1).fr k2) h0 h4) fun v s3 hv => ?_
  obtain ⟨k3, rfl⟩ := hv
  refine Rg.call (expo_ok (((h.fr f1).fr k2).fr k3) h0 h4) fun v s4 hv => ?_
  obtain ⟨k4, rfl⟩ := hv
  have b4 := b1.fr ((k2.trans k3).trans k4)
  have k14 := f1.trans ((k2.trans k3).trans k4)
  have hfill : ∀ tm K, fillK tm K [(0, 1, .c (uv (pC x.toNat))), (1, 1, .c (uv (gN x.toNat))), (2, 1, .c (bl (eqI (eN x.toNat) 5)))] [us 0, us 0, .bool false] = K (mixC x.toNat) := fun tm K => by
    rw [fill_sc tm K _ 0 _ _ (by simp), fill_sc tm K _ 1 _ _ (by simp [setRange]), fill_sc tm K _ 2 _ _ (by simp [setRange]), fill_nil]; rfl
  have hst : ∀ K : St → R, Ev.sto s4 3 (.sc (.ptr st.next 0)) (.agg (mixC x.toNat)) K = K (wr s4 st.next 0 (mixC x.toNat)) := fun K => b4.stoN (n := 3) rfl rfl K
  simp -implicitDefEqProofs (disch := first | decide | omega) [build_eq, hfill, hst]
  have kw := b4.kpw k14.wf (i := 0) (mixC x.toNat)
  have b5 := b4.setN (l' := mixC x.toNat) rfl
  exact Rg.ret (hP _ _ (Ru.ret (hQ _ _ (resP.cellN (n := 2) (id := st.next) (off := 0) (l := mixC x.toNat) rfl (b5.N rfl) ⟨kw.fr k14 (fun id h => by cases h; exact Nat.le_refl _) h.glo.wf, rfl⟩))))
theorem reduced_ok (hw : WfS st) (x : Nat) (f : Nat → Nat) : Ca (cF F) 72 [.agg (mixC x), .agg (fourC f)] st (fun v s => Fr st s ∧ v = .agg (fourC fun i => f i % pC x)) := by
  refine Ca.of (hf := cf72) rfl rfl [q0, q1] [.cellN n4 q4] rfl rfl rfl fun Q hQ => ?_
  have hp := pC_pos x
  have f1 := (Fr.refl hw).new (mixC x)
  have f2 := f1.new (fourC f)
  have f3 := f2.new [us 0, us 0, us 0, us 0]
  have b2 : Bx (new (new (new st (mixC x)) (fourC f)) [us 0, us 0, us 0, us 0]) st.next (mixC x) := ((Bx.new (s := st)).fr ((Fr.refl f1.wf).new _)).fr ((Fr.refl f2.wf).new _)
  have b3 : Bx (new (new (new st (mixC x)) (fourC f)) [us 0, us 0, us 0, us 0]) (st.next + 1) (fourC f) := (Bx.new (s := new st (mixC x))).fr ((Fr.refl f2.wf).new _)
  have b4 : Bx (new (new (new st (mixC x)) (fourC f)) [us 0, us 0, us 0, us 0]) (st.next + 1 + 1) [us 0, us 0, us 0, us 0] := Bx.new (s := new (new st (mixC x)) (fourC f))
  refine Ru.rs fun P hP => ?_
  simp -implicitDefEqProofs (disch := first | decide | omega)
  refine Rg.ret (hP _ _ ?_)
  clear hP P
  generalize new (new (new st (mixC x)) (fourC f)) [us 0, us 0, us 0, us 0] = s3 at *
  refine Ru.seq (Ru.rs fun P hP => Rg.ret (hP _ _ ?_))
  clear hP P
  refine Ru.at (fun ρ => ρ q2 = .sc (.ptr st.next 0) ∧ ρ q3 = .sc (.ptr (st.next + 1) 0) ∧ ρ q4 = .sc (.ptr (st.next + 1 + 1) 0) ∧ ρ q6 = iv 0) ⟨rfl, rfl, rfl, rfl⟩ fun ρ0 hE => ?_
  obtain ⟨e2, e3, e4, e6⟩ := hE
  refine Ru.block (Ru.lp [q2, q3, q4] (fun j : Nat => 4 - j) (fun j ρ s => j ≤ 4 ∧ ρ q6 = iv j ∧ Fr st s ∧ Bx s st.next (mixC x) ∧ Bx s (st.next + 1) (fourC fun i => if i < j then f i % pC x else f i) ∧ Bx s (st.next + 1 + 1) [us 0, us 0, us 0, us 0])
    ⟨0, Nat.zero_le _, e6, f3, b2, b3, b4⟩ fun j ρ s hk hI => ?_)
  clear e6 b2 b3 b4 f1 f2 f3
  obtain ⟨hj4, e6, k, b2, b3, b4⟩ := hI
  refine Ru.rs fun P hP => ?_
  simp -implicitDefEqProofs (disch := first | decide | omega) [hk.e, e6]
  refine Rg.ret (hP _ _ ?_)
  clear hP P
  refine Ru.seq (Ru.cond rfl (fun h => Ru.skip ?_) fun h => Ru.exit ?_)
  · simp at h
    have hj : j < 4 := by omega
    simp only [Then, Out]
    have hr := b3.rd j _ (fourC_get _ j hj)
    simp only [Nat.lt_irrefl, if_false] at hr
    have o3 := b3.own
    have hdS := fun (al lm sm hv : Nat) (ll ss : List (Nat × Nat)) (n0 bit pre : Nat) (x : S) (K : V → Mk → St → R) (h : okS ⟨al, lm, sm, hv, [], ll, ss⟩ n0 pre (st.next + 1) = true) => dS_ok (st := s) (n := 4) (off := j) (bit := bit) o3 (by omega) x K h
    refine Ru.seq (Ru.block (Ru.rs fun P hP => ?_))
    simp -implicitDefEqProofs (disch := first | decide | omega) [e6]
    refine Rg.ret (hP _ _ ?_)
    clear hP P
    refine Ru.d1 fun P hP => ?_
    simp -implicitDefEqProofs (disch := first | decide | omega | (apply okS_t; decide; (simp (decide := true) <;> omega))) [hk.e, e2, e3, hr, b2.rd 0 _ rfl, hdS]
    refine Rg.ret (hP _ _ ?_)
    clear hP P hdS
    have kw := b3.kpw k.wf (i := j) [us (f j % pC x)]
    have b3' := b3.set (i := j) (by simpa using hj) (us (f j % pC x))
    rw [fourC_set f (fun i => f i % pC x) j hj] at b3'
    simp only [Then, Out]
    refine Ru.r1 fun P hP => ?_
    simp -implicitDefEqProofs (disch := first | decide | omega) [e6]
    exact Rg.ret (hP _ _ ⟨by repeat first | exact hk | refine Keep.up (by rfl) ?_, j + 1, by omega, by omega, rfl, kw.fr k (fun id h => by cases h; omega) hw, b2.kp kw (ne_some (by omega)), b3', b4.kp kw (ne_some (by omega))⟩)
  simp at h
  obtain rfl : j = 4 := by omega
  simp only [Then, Out, if_true]
  have b3' : Bx s (st.next + 1) (fourC fun i => f i % pC x) := b3
  have hst : ∀ K : St → R, Ev.sto s 4 (.sc (.ptr (st.next + 1 + 1) 0)) (.agg (fourC fun i => f i % pC x)) K = K (wr s (st.next + 1 + 1) 0 (fourC fun i => f i % pC x)) := fun K => b4.stoN (n := 4) rfl rfl K
  refine Ru.rs fun P hP => ?_
  simp -implicitDefEqProofs (disch := first | decide | omega) [hk.e, e3, e4, b3'.N (n := 4) rfl, hst]
  refine Rg.ret (hP _ _ ?_)
  have kw := b4.kpw k.wf (i := 0) (fourC fun i => f i % pC x)
  have b5 := b4.setN (l' := fourC fun i => f i % pC x) rfl
  exact Ru.ret (hQ _ _ (resP.cellN (n := 3) (id := st.next + 1 + 1) (off := 0) (l := fourC fun i => f i % pC x) (by simp (disch := first | decide | omega) [hk.e, e4]) (b5.N rfl) ⟨kw.fr k (fun id h => by cases h; omega) hw, rfl⟩))
end Go.Proofs.YticfndhcbjcklaaDoor.Ev
namespace Go.Proofs.YticfndhcbjcklaaDoor.Ev
set_option linter.unusedSimpArgs false
set_option linter.unusedVariables false
variable {st s t : St} {n i id off : Nat}
theorem mpow_lt {P : Nat} (h : 0 < P) (b : Bool) (x : Nat) : mpow P b x < P := Nat.mod_lt _ h
theorem power_ok (hw : WfS st) (x : Nat) {a : Nat} (ha : a < 4294967296) : Ca (cF F) 79 [.agg (mixC x), uv a] st (fun v s => Fr st s ∧ v = uv (mpow (pC x) (fvB x) a)) := by
  have hp := pC_pos x
  have hl := pC_lt x
  exact (sPower (F := F) (f := 79) rfl rfl hw (gN x) (fvB x) hp (by omega) ha).imp fun v s h => ⟨h.1.1, h.2⟩
/-- a round: the powers of the generator, the powers, the sums -/
def kS (P g k : Nat) : Nat → Nat
  | 0 => k
  | j + 1 => kS P g k j * g % P
def tS (x k : Nat) (f : Nat → Nat) (j : Nat) : Nat := mpow (pC x) (fvB x) ((f j + kS (pC x) (gN x) k (j + 1) + 7) % pC x)
def sumS (x k : Nat) (f : Nat → Nat) : Nat := tS x k f 0 + tS x k f 1 + tS x k f 2 + tS x k f 3
def rS (x k : Nat) (f : Nat → Nat) (j : Nat) : Nat := (sumS x k f + tS x k f j + 2 * tS x k f ((j + 1) % 4)) % pC x
theorem kS_lt {P g k : Nat} (h : 0 < P) (hk : k < P) : ∀ j, kS P g k j < P
  | 0 => hk
  | j + 1 => Nat.mod_lt _ h
theorem spRound_ok (hw : WfS st) (x k : Nat) (f : Nat → Nat) (hk : k < pC x) (hf : ∀ j, j < 4 → f j < pC x) : Ca (cF F) 70 [.agg (mixC x), uv k, .agg (fourC f)] st (fun v s => Fr st s ∧ v = .tup [(false, [us (kS (pC x) (gN x) k 4)]), (true, fourC (rS x k f))]) := by
  refine Ca.of (hf := cf70) rfl rfl [q0, q1, q2] [.tmp q6, .cellN n4 q7] rfl rfl rfl fun Q hQ => ?_
  have hp := pC_pos x
  have hpl := pC_lt x
  have hgl := gN_lt x
  have f1 := (Fr.refl hw).new (mixC x)
  have f2 := f1.new (fourC f)
  have f3 := f2.new [us 0, us 0, us 0, us 0]
  have b3 : Bx (new (new (new st (mixC x)) (fourC f)) [us 0, us 0, us 0, us 0]) st.next (mixC x) := ((Bx.new (s := st)).fr ((Fr.refl f1.wf).new _)).fr ((Fr.refl f2.wf).new _)
  have b5 : Bx (new (new (new st (mixC x)) (fourC f)) [us 0, us 0, us 0, us 0]) (st.next + 1) (fourC f) := (Bx.new (s := new st (mixC x))).fr ((Fr.refl f2.wf).new _)
  have b7 : Bx (new (new (new st (mixC x)) (fourC f)) [us 0, us 0, us 0, us 0]) (st.next + 1 + 1) [us 0, us 0, us 0, us 0] := Bx.new (s := new (new st (mixC x)) (fourC f))
  refine Ru.rs fun P hP => ?_
  simp -implicitDefEqProofs (disch := first | decide | omega)
  refine Rg.ret (hP _ _ ?_)
  clear hP P
  generalize new (new (new st (mixC x)) (fourC f)) [us 0, us 0, us 0, us 0] = s3 at *
  refine Ru.seq (Ru.rs fun P hP => Rg.ret (hP _ _ ?_))
  clear hP P
  refine Ru.at (fun ρ => ρ q3 = .sc (.ptr st.next 0) ∧ ρ q5 = .sc (.ptr (st.next + 1) 0) ∧ ρ q7 = .sc (.ptr (st.next + 1 + 1) 0) ∧ ρ q10 = iv 0 ∧ ρ q1 = uv k) ⟨rfl, rfl, rfl, rfl, rfl⟩ fun ρ0 hE => ?_
  obtain ⟨e3, e5, e7, e10, e1⟩ := hE
  refine Ru.block (Ru.lp [q3, q5, q7] (fun j : Nat => 4 - j) (fun j ρ s => j ≤ 4 ∧ ρ q10 = iv j ∧ ρ q1 = uv (kS (pC x) (gN x) k j) ∧ Fr st s ∧ Bx s st.next (mixC x) ∧ Bx s (st.next + 1) (fourC fun i => if i < j then tS x k f i else f i) ∧ Bx s (st.next + 1 + 1) [us 0, us 0, us 0, us 0])
    ⟨0, Nat.zero_le _, e10, e1, f3, b3, b5, b7⟩ fun j ρ s hk2 hI => ?_)
  clear e10 e1 b3 b5 b7 f1 f2 f3
  obtain ⟨hj4, e10, e1, kf, b3, b5, b7⟩ := hI
  refine Ru.rs fun P hP => ?_
  simp -implicitDefEqProofs (disch := first | decide | omega) [hk2.e, e10]
  refine Rg.ret (hP _ _ ?_)
  clear hP P
  refine Ru.seq (Ru.cond rfl (fun h => Ru.skip ?_) fun h => Ru.exit ?_)
  · simp at h
    have hj : j < 4 := by omega
    simp only [Then, Out]
    have hr := b5.rd j _ (fourC_get _ j hj)
    simp only [Nat.lt_irrefl, if_false] at hr
    have o5 := b5.own
    have hkl := kS_lt (g := gN x) hp hk j
    have hkl2 := kS_lt (g := gN x) hp hk (j + 1)
    have hfj := hf j hj
    have hmul : kS (pC x) (gN x) k j * gN x < 18446744073709551616 := mul_small (by omega) (by omega)
    refine Ru.seq (Ru.block (Ru.rs fun P hP => ?_))
    simp -implicitDefEqProofs (disch := first | decide | omega) [e10]
    refine Rg.ret (hP _ _ ?_)
    clear hP P
    refine Ru.rs fun P hP => ?_
    simp -implicitDefEqProofs (disch := first | decide | assumption | omega) [hk2.e, e1, e3, b3.rd 0 _ rfl, b3.rd 1 _ rfl]
    refine Rg.ret (hP _ _ ?_)
    clear hP P
    refine Ru.d1 fun P hP => ?_
    have hks : kS (pC x) (gN x) k j * gN x % pC x = kS (pC x) (gN x) k (j + 1) := rfl
    rw [hks]
    have hml := Nat.mod_lt (f j + kS (pC x) (gN x) k (j + 1) + 7) hp
    simp -implicitDefEqProofs (disch := first | decide | omega) [hk2.e, e3, e5, hr, b3.rd 0 _ rfl, b3.N (n := 3) rfl]
    refine Rg.dc (fun v => v = uv (tS x k f j)) kf.wf (by decide) (by decide) ((power_ok (wf_setLow (h := kf.wf)) x (by omega)).imp fun v s h => h) fun v s5 k5 hv => ?_
    subst hv
    have b5b := b5.fr k5
    have hdS := fun (al lm sm hv : Nat) (ll ss : List (Nat × Nat)) (n0 bit pre : Nat) (x : S) (K : V → Mk → St → R) (h : okS ⟨al, lm, sm, hv, [], ll, ss⟩ n0 pre (st.next + 1) = true) => dS_ok (st := s5) (n := 4) (off := j) (bit := bit) b5b.own (by omega) x K h
    simp -implicitDefEqProofs (disch := first | decide | omega | (apply okS_t; decide; (simp (decide := true) <;> omega))) [hk2.e, e5, hdS]
    refine Rg.ret (hP _ _ ?_)
    clear hP P hdS
    have kf5 := kf.trans k5
    have kw := b5b.kpw kf5.wf (i := j) [us (tS x k f j)]
    have b5' := b5b.set (i := j) (by simpa using hj) (us (tS x k f j))
    rw [fourC_set f (fun i => tS x k f i) j hj] at b5'
    simp only [Then, Out]
    refine Ru.r1 fun P hP => ?_
    simp -implicitDefEqProofs (disch := first | decide | omega) [e10]
    exact Rg.ret (hP _ _ ⟨by repeat first | exact hk2 | refine Keep.up (by rfl) ?_, j + 1, by omega, by omega, rfl, by simp (disch := first | decide | omega) [hks], kw.fr kf5 (fun id h => by cases h; omega) hw, (b3.fr k5).kp kw (ne_some (by omega)), b5', (b7.fr k5).kp kw (ne_some (by omega))⟩)
  simp at h
  obtain rfl : j = 4 := by omega
  simp only [Then, Out, if_true]
  have b5' : Bx s (st.next + 1) (fourC (tS x k f)) := b5
  have t0 : tS x k f 0 < pC x := mpow_lt hp _ _
  have t1 : tS x k f 1 < pC x := mpow_lt hp _ _
  have t2 : tS x k f 2 < pC x := mpow_lt hp _ _
  have t3 : tS x k f 3 < pC x := mpow_lt hp _ _
  have hr : ∀ j, rS x k f j = (sumS x k f + tS x k f j + 2 * tS x k f ((j + 1) % 4)) % pC x := fun j => rfl
  have hs : tS x k f 0 + tS x k f 1 + tS x k f 2 + tS x k f 3 = sumS x k f := rfl
  refine Ru.rs fun P hP => ?_
  simp -implicitDefEqProofs (disch := first | decide | omega) [hk2.e, e5, b5'.rd 0 _ rfl, b5'.rd 1 _ rfl, b5'.rd 2 _ rfl, b5'.rd 3 _ rfl, hs]
  refine Rg.ret (hP _ _ ?_)
  clear hP P
  refine Ru.ds fun P hP => ?_
  have hfill : ∀ tm K, fillK tm K [(0, 1, .c (uv ((sumS x k f + tS x k f 0 + 2 * tS x k f 1) % pC x))), (1, 1, .c (uv ((sumS x k f + tS x k f 1 + 2 * tS x k f 2) % pC x))), (2, 1, .c (uv ((sumS x k f + tS x k f 2 + 2 * tS x k f 3) % pC x))), (3, 1, .c (uv ((sumS x k f + tS x k f 3 + 2 * tS x k f 0) % pC x)))] [us 0, us 0, us 0, us 0] = K (fourC (rS x k f)) := fun tm K => by
    rw [fill_sc tm K _ 0 _ _ (by simp), fill_sc tm K _ 1 _ _ (by simp [setRange]), fill_sc tm K _ 2 _ _ (by simp [setRange]), fill_sc tm K _ 3 _ _ (by simp [setRange]), fill_nil]; rfl
  have hdS := fun (al lm sm hv : Nat) (ll ss : List (Nat × Nat)) (n0 bit pre : Nat) (K : V → Mk → St → R) (h : okS ⟨al, lm, sm, hv, [], ll, ss⟩ n0 pre (st.next + 1 + 1) = true) => dS_agg (st := s) (bit := bit) (off := 0) (m := 4) (l := fourC (rS x k f)) b7.own (by simp) rfl K h
  have hsl : sumS x k f < 4000000000 := by rw [← hs]; omega
  simp -implicitDefEqProofs (disch := first | decide | omega | (apply okS_t; decide; (simp (decide := true) <;> omega))) [hk2.e, e3, e5, e7, e1, b5'.rd 0 _ rfl, b5'.rd 1 _ rfl, b5'.rd 2 _ rfl, b5'.rd 3 _ rfl, b3.rd 0 _ rfl, build_eq, hfill, hdS]
  refine Rg.ret (hP _ _ ?_)
  have kw := b7.kpw kf.wf (i := 0) (fourC (rS x k f))
  have b9 := b7.setN (l' := fourC (rS x k f)) rfl
  exact Ru.ret (hQ _ _ (resP.tmpCells (n := 3) (id := st.next + 1 + 1) (off := 0) (l := fourC (rS x k f)) (b := us (kS (pC x) (gN x) k 4)) rfl (by simp (disch := first | decide | omega) [hk2.e, e7]) (b9.N rfl) ⟨kw.fr kf (fun id h => by cases h; omega) hw, rfl⟩))
end Go.Proofs.YticfndhcbjcklaaDoor.Ev
namespace Go.Proofs.YticfndhcbjcklaaDoor.Ev
set_option linter.unusedSimpArgs false
set_option linter.unusedVariables false
variable {st s t : St} {n i id off : Nat}
def rndV (x : Nat) (r : Int) (f : Nat → Nat) : Nat → Nat := rS x (powL (pC x) 1 (gN x) (4 * r).toNat) fun j => f j % pC x
theorem rnd_ok (hg : Glo2 st) {x r : Int} (h0 : 0 ≤ x) (h4 : x < 4) (r0 : 0 ≤ r) (r8 : r < 8) (f : Nat → Nat) : Ca (cF F) 56 [iv x, iv r, .agg (fourC f)] st (fun v s => Fr st s ∧ v = .agg (fourC (rndV x.toNat r f))) := by
  refine Ca.of (hf := cf56) rfl rfl [q0, q1, q2] [.cellN n4 q6] rfl rfl rfl fun Q hQ => ?_
  have hw := hg.glo.wf
  have hp := pC_pos x.toNat
  have h5 := pC_five x.toNat
  have f1 := (Fr.refl hw).new (fourC f)
  have f2 := f1.new [us 0, us 0, us 0, us 0]
  have b5 : Bx (new (new st (fourC f)) [us 0, us 0, us 0, us 0]) st.next (fourC f) := (Bx.new (s := st)).fr ((Fr.refl f1.wf).new _)
  have b6 : Bx (new (new st (fourC f)) [us 0, us 0, us 0, us 0]) (st.next + 1) [us 0, us 0, us 0, us 0] := Bx.new (s := new st (fourC f))
  refine Ru.rs fun P hP => ?_
  simp -implicitDefEqProofs (disch := first | decide | omega)
  refine Rg.ret (hP _ _ ?_)
  clear hP P
  generalize new (new st (fourC f)) [us 0, us 0, us 0, us 0] = s2 at *
  refine Ru.seq (Ru.rs fun P hP => ?_)
  simp -implicitDefEqProofs (disch := first | decide | omega)
  refine Rg.call (known_ok x r s2 h0 h4 r0 r8) fun v s hv => ?_
  obtain ⟨hs, rfl⟩ := hv
  subst s
  simp -implicitDefEqProofs (disch := first | decide | omega)
  refine Rg.ret (hP _ _ (Ru.cond rfl (fun h => by cases h) fun _ => Ru.skip ?_))
  clear hP P
  simp only [Then, Out]
  refine Ru.rs fun P hP => ?_
  simp -implicitDefEqProofs (disch := first | decide | omega)
  refine Rg.call (in_ok (hg.fr f2) h0 h4) fun v s3 hv => ?_
  obtain ⟨k3, rfl⟩ := hv
  have hst : ∀ K : St → R, Ev.sto (new s3 [us 0, us 0, .bool false]) 3 (V.sc (S.ptr s3.next 0)) (.agg (mixC x.toNat)) K = K (wr (new s3 [us 0, us 0, .bool false]) s3.next 0 (mixC x.toNat)) := fun K => sto_new K rfl rfl
  simp -implicitDefEqProofs (disch := first | decide | omega) [hst]
  refine Rg.ret (hP _ _ ?_)
  clear hP P hst
  have k4 := k3.trans (fr_mk k3.wf [us 0, us 0, .bool false] (mixC x.toNat))
  have b7 : Bx (wr (new s3 [us 0, us 0, .bool false]) s3.next 0 (mixC x.toNat)) s3.next (mixC x.toNat) := Bx.mk' rfl
  have b5a := b5.fr k4
  have b6a := b6.fr k4
  have f4 := f2.trans k4
  generalize wr (new s3 [us 0, us 0, .bool false]) s3.next 0 (mixC x.toNat) = s4 at *
  generalize s3.next = i7 at *
  refine Ru.ds fun P hP => ?_
  have hmul : ∀ K : V → R, binK .mul (iv 4) (iv r) K = K (iv (4 * r)) := fun K => imul' _ _ K (by omega) (by omega)
  have hpl : powL (pC x.toNat) 1 (gN x.toNat) (4 * r).toNat < pC x.toNat := powL_lt hp _ _ _ (by omega)
  simp -implicitDefEqProofs (disch := first | decide | omega) [b7.N (n := 3) rfl, b7.rd 1 _ rfl, hmul]
  refine Rg.dc (fun v => v = uv (powL (pC x.toNat) 1 (gN x.toNat) (4 * r).toNat)) f4.wf (by decide) (by decide) ((pow_ok ((hg.fr f4).glo.low _) h0 h4 _ _ (by omega)).imp fun v s h => h) fun v s5 k5 hv => ?_
  subst hv
  have b7b := b7.fr k5
  have b5b := b5a.fr k5
  have f5 := f4.trans k5
  have hi7 := b7.lt
  have hi5 := b5a.lt
  simp -implicitDefEqProofs (disch := first | decide | omega) [dN_low, b7b.N (n := 3) rfl, b5b.N (n := 4) rfl]
  refine Rg.dc (fun v => v = .agg (fourC fun i => f i % pC x.toNat)) f5.wf (by decide) (by decide) ((reduced_ok (wf_setLow (h := f5.wf)) x.toNat f).imp fun v s h => h) fun v s6 k6 hv => ?_
  subst hv
  have f6 := f5.trans k6
  simp -implicitDefEqProofs (disch := first | decide | omega)
  refine Rg.dc (fun v => v = .tup [(false, [us (kS (pC x.toNat) (gN x.toNat) (powL (pC x.toNat) 1 (gN x.toNat) (4 * r).toNat) 4)]), (true, fourC (rndV x.toNat r f))]) f6.wf (by decide) (by decide) ((spRound_ok (wf_setLow (h := f6.wf)) x.toNat _ (fun i => f i % pC x.toNat) hpl fun j hj => Nat.mod_lt _ hp).imp fun v s h => h) fun v s7 k7 hv => ?_
  subst hv
  have f7 := f6.trans k7
  have ow : Own (new s7 [us 0, us 0, us 0, us 0]) s7.next 4 := Own.new (l := [us 0, us 0, us 0, us 0])
  have hdS := fun (al lm sm hv : Nat) (ll ss : List (Nat × Nat)) (n0 bit pre : Nat) (K : V → Mk → St → R) (h : okS ⟨al, lm, sm, hv, [], ll, ss⟩ n0 pre s7.next = true) => dS_agg (st := new s7 [us 0, us 0, us 0, us 0]) (bit := bit) (off := 0) (m := 4) (l := fourC (rndV x.toNat r f)) ow (by simp) rfl K h
  have hx1 : ∀ (c : CallK) (ρ : Ev) (s : St) (K : V → St → R), xE 1 (.tup [(false, [us (kS (pC x.toNat) (gN x.toNat) (powL (pC x.toNat) 1 (gN x.toNat) (4 * r).toNat) 4)]), (true, fourC (rndV x.toNat r f))]) c ρ s K = K (.agg (fourC (rndV x.toNat r f))) s := fun c ρ s K => xE_agg _ 1 _ c ρ K rfl
  simp -implicitDefEqProofs (disch := first | decide | omega | (apply okS_t; decide; (simp (decide := true) <;> omega))) [hx1, hdS]
  refine Rg.ret (hP _ _ ?_)
  clear hP P hdS hx1 ow
  have k8 := fr_mk f7.wf [us 0, us 0, us 0, us 0] (fourC (rndV x.toNat r f))
  have b9 : Bx (wr (new s7 [us 0, us 0, us 0, us 0]) s7.next 0 (fourC (rndV x.toNat r f))) s7.next (fourC (rndV x.toNat r f)) := Bx.mk' rfl
  have b6b := b6a.fr (((k5.trans k6).trans k7).trans k8)
  have f8 := f7.trans k8
  generalize wr (new s7 [us 0, us 0, us 0, us 0]) s7.next 0 (fourC (rndV x.toNat r f)) = s8 at *
  have hst : ∀ K : St → R, Ev.sto s8 4 (.sc (.ptr (st.next + 1) 0)) (.agg (fourC (rndV x.toNat r f))) K = K (wr s8 (st.next + 1) 0 (fourC (rndV x.toNat r f))) := fun K => b6b.stoN (n := 4) rfl rfl K
  refine Ru.rs fun P hP => ?_
  simp -implicitDefEqProofs (disch := first | decide | omega) [b9.N (n := 4) rfl, hst]
  refine Rg.ret (hP _ _ ?_)
  have kw := b6b.kpw f8.wf (i := 0) (fourC (rndV x.toNat r f))
  have b10 := b6b.setN (l' := fourC (rndV x.toNat r f)) rfl
  exact Ru.ret (hQ _ _ (resP.cellN (n := 3) (id := st.next + 1) (off := 0) (l := fourC (rndV x.toNat r f)) rfl (b10.N rfl) ⟨kw.fr f8 (fun id h => by cases h; omega) hw, rfl⟩))
/-- the value of a variable -/
def vl (a : List Nat) (w : Int) : Nat := a.getD w.toNat 0
theorem vlE {y : S} {a : List Nat} (ha : RepN st y a) {w : Int} (h0 : 0 ≤ w) (h1 : w < a.length) : ∃ id o, (∀ K, ixs 1 (.sc y) (iv w) K = K (.sc (.ptr id o))) ∧ rd st id o = some (us (vl a w)) := by
  have hg := List.getElem?_eq_getElem (show w.toNat < a.length by omega)
  obtain ⟨id, o, hx, hc, _⟩ := elt1 (f := us) ha hg
  rw [show ((w.toNat : Nat) : Int) = w by omega] at hx
  refine ⟨id, o, hx, ?_⟩
  rw [hc]
  unfold vl
  rw [List.getD_eq_getElem?_getD, hg, Option.getD_some]
theorem turned_ok (hg : Glo2 st) {x : Int} (h0 : 0 ≤ x) (h4 : x < 4) (g : GateD) (r0 : 0 ≤ g.round) (r8 : g.round < 8) {y : S} {a : List Nat} (ha : RepN st y a) (hwr : ∀ j, j < 4 → 0 ≤ g.w j ∧ g.w j < a.length) :
    Ca (cF F) 38 [iv x, .agg (gateC g), .sc y] st (fun v s => Fr st s ∧ v = .agg (fourC (rndV x.toNat g.round fun j => vl a (g.w j)))) := by
  refine Ca.of (hf := cf38) rfl rfl [q0, q1, q2] [.cellN n4 q6] rfl rfl rfl fun Q hQ => ?_
  have hw := hg.glo.wf
  have f1 := (Fr.refl hw).new (gateC g)
  have f2 := f1.new [us 0, us 0, us 0, us 0]
  have f3 := f2.new [us 0, us 0, us 0, us 0]
  have b4 : Bx (new (new st (gateC g)) [us 0, us 0, us 0, us 0]) st.next (gateC g) := (Bx.new (s := st)).fr ((Fr.refl f1.wf).new _)
  have b6 : Bx (new (new st (gateC g)) [us 0, us 0, us 0, us 0]) (st.next + 1) [us 0, us 0, us 0, us 0] := Bx.new (s := new st (gateC g))
  have b4 := b4.fr ((Fr.refl f2.wf).new [us 0, us 0, us 0, us 0])
  have b6 := b6.fr ((Fr.refl f2.wf).new [us 0, us 0, us 0, us 0])
  have b7 : Bx (new (new (new st (gateC g)) [us 0, us 0, us 0, us 0]) [us 0, us 0, us 0, us 0]) (st.next + 1 + 1) (fourC fun _ => 0) := Bx.new (s := new (new st (gateC g)) [us 0, us 0, us 0, us 0])
  refine Ru.rs fun P hP => ?_
  simp -implicitDefEqProofs (disch := first | decide | omega)
  refine Rg.ret (hP _ _ ?_)
  clear hP P
  refine Ru.rs fun P hP => ?_
  simp -implicitDefEqProofs (disch := first | decide | omega)
  refine Rg.ret (hP _ _ ?_)
  clear hP P
  generalize new (new (new st (gateC g)) [us 0, us 0, us 0, us 0]) [us 0, us 0, us 0, us 0] = s3 at *
  refine Ru.seq (Ru.rs fun P hP => Rg.ret (hP _ _ ?_))
  clear hP P
  refine Ru.at (fun ρ => ρ q0 = iv x ∧ ρ q2 = .sc y ∧ ρ q4 = .sc (.ptr st.next 0) ∧ ρ q6 = .sc (.ptr (st.next + 1) 0) ∧ ρ q7 = .sc (.ptr (st.next + 1 + 1) 0) ∧ ρ q9 = iv 0) ⟨rfl, rfl, rfl, rfl, rfl, rfl⟩ fun ρ0 hE => ?_
  obtain ⟨e0, e2, e4, e6, e7, e9⟩ := hE
  refine Ru.block (Ru.lp [q0, q2, q4, q6, q7] (fun j : Nat => 4 - j) (fun j ρ s => j ≤ 4 ∧ ρ q9 = iv j ∧ Fr st s ∧ Bx s st.next (gateC g) ∧ Bx s (st.next + 1) [us 0, us 0, us 0, us 0] ∧ Bx s (st.next + 1 + 1) (fourC fun i => if i < j then vl a (g.w i) else 0))
    ⟨0, Nat.zero_le _, e9, f3, b4, b6, b7⟩ fun j ρ s hk hI => ?_)
  clear e9 b4 b6 b7 f1 f2 f3
  obtain ⟨hj4, e9, kf, b4, b6, b7⟩ := hI
  refine Ru.rs fun P hP => ?_
  simp -implicitDefEqProofs (disch := first | decide | omega) [hk.e, e9]
  refine Rg.ret (hP _ _ ?_)
  clear hP P
  refine Ru.seq (Ru.cond rfl (fun h => Ru.skip ?_) fun h => Ru.exit ?_)
  · simp at h
    have hj : j < 4 := by omega
    simp only [Then, Out]
    have hwj := hwr j hj
    obtain ⟨id, o, hx, hc⟩ := vlE (ha.fr kf) hwj.1 hwj.2
    have hgw : rd s st.next (1 + j) = some (is (g.w j)) := by
      refine b4.rd (1 + j) _ ?_
      rcases (show j = 0 ∨ j = 1 ∨ j = 2 ∨ j = 3 by omega) with rfl | rfl | rfl | rfl <;> rfl
    refine Ru.seq (Ru.block (Ru.rs fun P hP => ?_))
    simp -implicitDefEqProofs (disch := first | decide | omega) [e9]
    refine Rg.ret (hP _ _ ?_)
    clear hP P
    refine Ru.r1 fun P hP => ?_
    simp -implicitDefEqProofs (disch := first | decide | omega) [hk.e, e2, e4, e7, hgw, hx, hc, b7.sto (i := j) (by simpa using hj)]
    refine Rg.ret (hP _ _ ?_)
    clear hP P
    have kw := b7.kpw kf.wf (i := j) [us (vl a (g.w j))]
    have b7' := b7.set (i := j) (by simpa using hj) (us (vl a (g.w j)))
    rw [fourC_set (fun _ => 0) (fun i => vl a (g.w i)) j hj] at b7'
    simp only [Then, Out]
    refine Ru.r1 fun P hP => ?_
    simp -implicitDefEqProofs (disch := first | decide | omega) [e9]
    exact Rg.ret (hP _ _ ⟨by repeat first | exact hk | refine Keep.up (by rfl) ?_, j + 1, by omega, by omega, rfl, kw.fr kf (fun id h => by cases h; omega) hw, b4.kp kw (ne_some (by omega)), b6.kp kw (ne_some (by omega)), b7'⟩)
  simp at h
  obtain rfl : j = 4 := by omega
  simp only [Then, Out, if_true]
  have b7' : Bx s (st.next + 1 + 1) (fourC fun i => vl a (g.w i)) := b7
  refine Ru.rs fun P hP => ?_
  simp -implicitDefEqProofs (disch := first | decide | omega) [hk.e, e0, e4, e7, b4.rd 10 _ rfl, b7'.N (n := 4) rfl]
  refine Rg.call (rnd_ok (hg.fr kf) h0 h4 r0 r8 fun i => vl a (g.w i)) fun v s5 hv => ?_
  obtain ⟨k5, rfl⟩ := hv
  have b6' := b6.fr k5
  have f5 := kf.trans k5
  have hst : ∀ K : St → R, Ev.sto s5 4 (.sc (.ptr (st.next + 1) 0)) (.agg (fourC (rndV x.toNat g.round fun i => vl a (g.w i)))) K = K (wr s5 (st.next + 1) 0 (fourC (rndV x.toNat g.round fun i => vl a (g.w i)))) := fun K => b6'.stoN (n := 4) rfl rfl K
  simp -implicitDefEqProofs (disch := first | decide | omega) [hk.e, e6, hst]
  refine Rg.ret (hP _ _ ?_)
  have kw := b6'.kpw f5.wf (i := 0) (fourC (rndV x.toNat g.round fun i => vl a (g.w i)))
  have b10 := b6'.setN (l' := fourC (rndV x.toNat g.round fun i => vl a (g.w i))) rfl
  exact Ru.ret (hQ _ _ (resP.cellN (n := 3) (id := st.next + 1) (off := 0) (l := fourC (rndV x.toNat g.round fun i => vl a (g.w i))) (by simp (disch := first | decide | omega) [hk.e, e6]) (b10.N rfl) ⟨kw.fr f5 (fun id h => by cases h; omega) hw, rfl⟩))
end Go.Proofs.YticfndhcbjcklaaDoor.Ev
namespace Go.Proofs.YticfndhcbjcklaaDoor.Ev
set_option linter.unusedSimpArgs false
set_option linter.unusedVariables false
variable {st s t : St} {n i id off : Nat}
/-- what a row reads lies among the values -/
def InR (g : GateD) (n : Nat) : Prop := ∀ j, j < 4 → readsD g j = true → 0 ≤ g.w j ∧ g.w j < n
def wrV (g : GateD) (a : List Nat) (i : Nat) : Nat := if readsD g i = true then vl a (g.w i) else 0
theorem wire_ok (hw : WfS st) (g : GateD) {y : S} {a : List Nat} (ha : RepN st y a) (hr : InR g a.length) (i : Nat) (hi : i < 4) :
    Ca (cF F) 59 [.agg (gateC g), .sc y, iv i] st (fun v s => Fr st s ∧ v = uv (wrV g a i)) := by
  refine Ca.of (hf := cf59) rfl rfl [q0, q1, q2] [.tmp q6] rfl rfl rfl fun Q hQ => ?_
  have f1 := (Fr.refl hw).new (gateC g)
  have b3 : Bx (new st (gateC g)) st.next (gateC g) := Bx.new
  refine Ru.rs fun P hP => ?_
  simp -implicitDefEqProofs (disch := first | decide | omega)
  refine Rg.ret (hP _ _ ?_)
  clear hP P
  generalize new st (gateC g) = s1 at *
  have hidx : [S.bool (readsD g 0), .bool (readsD g 1), .bool (readsD g 2), .bool (readsD g 3)][i]? = some (.bool (readsD g i)) := by
    rcases (show i = 0 ∨ i = 1 ∨ i = 2 ∨ i = 3 by omega) with rfl | rfl | rfl | rfl <;> rfl
  refine Ru.seq (Ru.rs fun P hP => ?_)
  simp -implicitDefEqProofs (disch := first | decide | omega) [b3.N (n := 11) rfl]
  refine Rg.call (reads_ok f1.wf g) fun v s2 hv => ?_
  obtain ⟨k2, rfl⟩ := hv
  have hix : ∀ (c : CallK) (r : Ev) (K : V → St → R), h_op2_idxV 4 1 false (.c (.agg [S.bool (readsD g 0), .bool (readsD g 1), .bool (readsD g 2), .bool (readsD g 3)])) (.c (iv i)) c r s2 K = K (bl (readsD g i)) s2 := fun c r K => idxV_sc c r K hi hidx
  simp -implicitDefEqProofs (disch := first | decide | omega) [hix]
  refine Rg.ret (hP _ _ ?_)
  clear hP P
  have f2 := f1.trans k2
  refine Ru.cond rfl (fun h => ?_) fun h => Ru.skip ?_
  · simp at h
    refine Ru.sreg (Rg.ret (Ru.ret (hQ _ _ (.one rfl ⟨f2, ?_⟩))))
    unfold wrV; rw [h]; rfl
  simp at h
  simp only [Then, Out]
  have hwi := hr i hi h
  obtain ⟨id, o, hx, hc⟩ := vlE (ha.fr f2) hwi.1 hwi.2
  have hgw : rd s2 st.next (1 + i) = some (is (g.w i)) := by
    refine k2.rd (b3.rd (1 + i) _ ?_)
    rcases (show i = 0 ∨ i = 1 ∨ i = 2 ∨ i = 3 by omega) with rfl | rfl | rfl | rfl <;> rfl
  refine Ru.rs fun P hP => ?_
  simp -implicitDefEqProofs (disch := first | decide | omega) [hgw, hx, hc]
  refine Rg.ret (hP _ _ (Ru.ret (hQ _ _ (.one rfl ⟨f2, ?_⟩))))
  unfold wrV; rw [if_pos h]; rfl
def totV (P : Nat) (g : GateD) (a : List Nat) : Nat :=
  fadd P (fadd P (fmul P (g.q 0) (wrV g a 0)) (fmul P (g.q 1) (wrV g a 1))) (fadd P (fmul P (g.q 2) (fmul P (wrV g a 0) (wrV g a 1))) (g.q 4))
theorem total_ok (hg : Glo st) {x : Int} (h0 : 0 ≤ x) (h4 : x < 4) (g : GateD) {y : S} {a : List Nat} (ha : RepN st y a) (hr : InR g a.length) :
    Ca (cF F) 41 [iv x, .agg (gateC g), .sc y] st (fun v s => Fr st s ∧ v = uv (totV (pC x.toNat) g a)) := by
  refine Ca.of (hf := cf41) rfl rfl [q0, q1, q2] [.tmp q6] rfl rfl rfl fun Q hQ => ?_
  have f1 := (Fr.refl hg.wf).new (gateC g)
  have b3 : Bx (new st (gateC g)) st.next (gateC g) := Bx.new
  refine Ru.rs fun P hP => ?_
  simp -implicitDefEqProofs (disch := first | decide | omega)
  refine Rg.ret (hP _ _ ?_)
  clear hP P
  generalize new st (gateC g) = s1 at *
  have hi3 := b3.lt
  refine Ru.ds fun P hP => ?_
  simp -implicitDefEqProofs (disch := first | decide | omega) [b3.N (n := 11) rfl]
  refine Rg.dc (fun v => v = uv (wrV g a 0)) f1.wf (by decide) (by decide) ((wire_ok (wf_setLow (h := f1.wf)) g ((ha.fr f1).low _) hr 0 (by decide)).imp fun v s h => h) fun v s2 k2 hv => ?_
  subst hv
  have b3b := b3.fr k2
  have f2 := f1.trans k2
  simp -implicitDefEqProofs (disch := first | decide | omega) [dN_low, b3b.N (n := 11) rfl]
  refine Rg.dc (fun v => v = uv (wrV g a 1)) f2.wf (by decide) (by decide) ((wire_ok (wf_setLow (h := f2.wf)) g ((ha.fr f2).low _) hr 1 (by decide)).imp fun v s h => h) fun v s3 k3 hv => ?_
  subst hv
  have b3c := b3b.fr k3
  have f3 := f2.trans k3
  refine Rg.ret (hP _ _ ?_)
  clear hP P b3 b3b
  have hi4 := b3c.lt
  refine Ru.ds fun P hP => ?_
  simp -implicitDefEqProofs (disch := first | decide | omega) [b3c.rd 5 _ rfl]
  refine Rg.dc (fun v => v = uv (fmul (pC x.toNat) (g.q 0) (wrV g a 0))) f3.wf (by decide) (by decide) ((mul_ok ((hg.fr f3).low _) h0 h4 _ _).imp fun v s h => h) fun v s4 k4 hv => ?_
  subst hv
  have b3d := b3c.fr k4
  have f4 := f3.trans k4
  simp -implicitDefEqProofs (disch := first | decide | omega) [dL_low, b3d.rd 6 _ rfl]
  refine Rg.dc (fun v => v = uv (fmul (pC x.toNat) (g.q 1) (wrV g a 1))) f4.wf (by decide) (by decide) ((mul_ok ((hg.fr f4).low _) h0 h4 _ _).imp fun v s h => h) fun v s5 k5 hv => ?_
  subst hv
  have f5 := f4.trans k5
  refine Rg.dc (fun v => v = uv (fadd (pC x.toNat) (fmul (pC x.toNat) (g.q 0) (wrV g a 0)) (fmul (pC x.toNat) (g.q 1) (wrV g a 1)))) f5.wf (by decide) (by decide) ((add_ok ((hg.fr f5).low _) h0 h4 _ _).imp fun v s h => h) fun v s6 k6 hv => ?_
  subst hv
  have f6 := f5.trans k6
  refine Rg.ret (hP _ _ ?_)
  clear hP P
  have b3e := b3d.fr (k5.trans k6)
  have hi6 := b3e.lt
  refine Ru.ds fun P hP => ?_
  simp -implicitDefEqProofs (disch := first | decide | omega) [b3e.rd 7 _ rfl]
  refine Rg.dc (fun v => v = uv (fmul (pC x.toNat) (wrV g a 0) (wrV g a 1))) f6.wf (by decide) (by decide) ((mul_ok ((hg.fr f6).low _) h0 h4 _ _).imp fun v s h => h) fun v s7 k7 hv => ?_
  subst hv
  have f7 := f6.trans k7
  refine Rg.dc (fun v => v = uv (fmul (pC x.toNat) (g.q 2) (fmul (pC x.toNat) (wrV g a 0) (wrV g a 1)))) f7.wf (by decide) (by decide) ((mul_ok ((hg.fr f7).low _) h0 h4 _ _).imp fun v s h => h) fun v s8 k8 hv => ?_
  subst hv
  have f8 := f7.trans k8
  have b3f := b3e.fr (k7.trans k8)
  simp -implicitDefEqProofs (disch := first | decide | omega) [dL_low, b3f.rd 9 _ rfl]
  refine Rg.dc (fun v => v = uv (fadd (pC x.toNat) (fmul (pC x.toNat) (g.q 2) (fmul (pC x.toNat) (wrV g a 0) (wrV g a 1))) (g.q 4))) f8.wf (by decide) (by decide) ((add_ok ((hg.fr f8).low _) h0 h4 _ _).imp fun v s h => h) fun v s9 k9 hv => ?_
  subst hv
  have f9 := f8.trans k9
  simp -implicitDefEqProofs (disch := first | decide | omega)
  refine Rg.dc (fun v => v = uv (totV (pC x.toNat) g a)) f9.wf (by decide) (by decide) ((add_ok ((hg.fr f9).low _) h0 h4 _ _).imp fun v s h => h) fun v s10 k10 hv => ?_
  subst hv
  exact Rg.ret (hP _ _ (Ru.ret (hQ _ _ (.one rfl ⟨f9.trans k10, rfl⟩))))
end Go.Proofs.YticfndhcbjcklaaDoor.Ev
namespace Go.Proofs.YticfndhcbjcklaaDoor.Ev
set_option linter.unusedSimpArgs false
set_option linter.unusedVariables false
variable {st s t : St} {n i id off : Nat}
def rndOk (x : Nat) (g g' : GateD) (a : List Nat) (j : Nat) : Prop := ∀ k, k < j → vl a (g'.w k) = rndV x g.round (fun j => vl a (g.w j)) k
/-- a row holds -/
def HoldR (x : Nat) (L : List GateD) (i : Nat) (g : GateD) (a : List Nat) : Prop :=
  if g.kind = 1 then fadd (pC x) (totV (pC x) g a) (fmul (pC x) (g.q 3) (wrV g a 2)) = 0
  else if g.kind = 2 then vl a (g.w 0) < 16
  else if g.kind = 3 then ∃ g', L[i + 1]? = some g' ∧ rndOk x g g' a 4
  else True
theorem formed_inR {P : Nat} {vars : Int} {g : GateD} (h : Formed P vars g) {n : Nat} (hn : (n : Int) = vars) : InR g n := fun j hj hr => by
  obtain ⟨_, _, _, _, _, _, h7⟩ := h
  have := h7 j hj
  exact ⟨this.2.2 hr, by omega⟩
theorem readsD3 {g : GateD} (h : g.kind = 3) (j : Nat) : readsD g j = true := by unfold readsD; simp [h]
theorem readsD2 {g : GateD} (h : g.kind = 2) : readsD g 0 = true := by unfold readsD; simp [h]
theorem holds_ok (hg : Glo2 st) (p : GatesD) (hp : RepRows st p.sl p.rows) (hlen : p.rows.length ≤ 8000) (h0 : 0 ≤ p.field) (h4 : p.field < 4) {y : S} {a : List Nat} (ha : RepN st y a) (hav : (a.length : Int) = p.vars) {i : Nat}
    (hok : OkRow (pC p.field.toNat) p.vars p.rows i) {g : GateD} (hgi : p.rows[i]? = some g) :
    Ca (cF F) 42 [.agg (gC p), .sc y, iv i] st (fun v s => Fr st s ∧ ∃ b, v = bl b ∧ (b = true ↔ HoldR p.field.toNat p.rows i g a)) := by
  refine Ca.of (hf := cf42) rfl rfl [q0, q1, q2] [.tmp q6] rfl rfl rfl fun Q hQ => ?_
  obtain ⟨g', hg', hfm, hnx⟩ := hok
  rw [hgi] at hg'
  cases hg'
  have hin := formed_inR hfm hav
  have hw := hg.glo.wf
  have f1 := (Fr.refl hw).new (gC p)
  have b3 : Bx (new st (gC p)) st.next (gC p) := Bx.new
  refine Ru.rs fun P hP => ?_
  simp -implicitDefEqProofs (disch := first | decide | omega)
  refine Rg.ret (hP _ _ ?_)
  clear hP P
  generalize new st (gC p) = s1 at *
  have hpr := Sat.fr hp f1
  obtain ⟨id, o, hx, hc, _⟩ := elt (f := gateC) (z := 11) (fun _ => rfl) hpr hgi
  have hN : rdN s1 id o 11 = some (gateC g) := rdN_get rfl hc
  have hst : ∀ K : St → R, Ev.sto (new s1 [bs 0, is 0, is 0, is 0, is 0, us 0, us 0, us 0, us 0, us 0, is 0]) 11 (V.sc (S.ptr s1.next 0)) (.agg (gateC g)) K = K (wr (new s1 [bs 0, is 0, is 0, is 0, is 0, us 0, us 0, us 0, us 0, us 0, is 0]) s1.next 0 (gateC g)) := fun K => sto_new K rfl rfl
  refine Ru.rs fun P hP => ?_
  simp -implicitDefEqProofs (disch := first | decide | omega) [b3.rd 4 _ rfl, hx, hN, hst]
  refine Rg.ret (hP _ _ ?_)
  clear hP P hst hx hc hN
  have k2 := fr_mk f1.wf [bs 0, is 0, is 0, is 0, is 0, us 0, us 0, us 0, us 0, us 0, is 0] (gateC g)
  have b7 : Bx (wr (new s1 [bs 0, is 0, is 0, is 0, is 0, us 0, us 0, us 0, us 0, us 0, is 0]) s1.next 0 (gateC g)) s1.next (gateC g) := Bx.mk' rfl
  have b3b := b3.fr k2
  have f2 := f1.trans k2
  have hi37 : st.next < s1.next := b3.lt
  generalize wr (new s1 [bs 0, is 0, is 0, is 0, is 0, us 0, us 0, us 0, us 0, us 0, is 0]) s1.next 0 (gateC g) = s2 at *
  generalize s1.next = i7 at *
  clear b3 k2 f1 hpr
  refine Ru.seq (Ru.rs fun P hP => ?_)
  simp -implicitDefEqProofs (disch := first | decide | omega) [b7.rd 0 _ rfl]
  refine Rg.ret (hP _ _ ?_)
  clear hP P
  refine Ru.block (Ru.rs fun P hP => ?_)
  simp -implicitDefEqProofs (disch := first | decide | omega)
  refine Rg.ret (hP _ _ ?_)
  clear hP P
  refine Ru.cond rfl (fun h => ?_) fun h => ?_
  · simp at h
    have hi3 := b3b.lt
    have hi7 := b7.lt
    refine Ru.ds fun P hP => ?_
    simp -implicitDefEqProofs (disch := first | decide | omega) [b3b.rd 0 _ rfl, b7.N (n := 11) rfl]
    refine Rg.dc (fun v => v = uv (totV (pC p.field.toNat) g a)) f2.wf (by decide) (by decide) ((total_ok ((hg.fr f2).glo.low _) h0 h4 g ((Sat.fr ha f2).low _) hin).imp fun v s h => h) fun v s3 k3 hv => ?_
    subst hv
    have f3 := f2.trans k3
    have b3c := b3b.fr k3
    have b7c := b7.fr k3
    simp -implicitDefEqProofs (disch := first | decide | omega) [dL_low, dN_low, b3c.rd 0 _ rfl, b7c.rd 8 _ rfl, b7c.N (n := 11) rfl]
    refine Rg.dc (fun v => v = uv (wrV g a 2)) f3.wf (by decide) (by decide) ((wire_ok (wf_setLow (h := f3.wf)) g ((Sat.fr ha f3).low _) hin 2 (by decide)).imp fun v s h => h) fun v s4 k4 hv => ?_
    subst hv
    have f4 := f3.trans k4
    simp -implicitDefEqProofs (disch := first | decide | omega)
    refine Rg.dc (fun v => v = uv (fmul (pC p.field.toNat) (g.q 3) (wrV g a 2))) f4.wf (by decide) (by decide) ((mul_ok ((hg.fr f4).glo.low _) h0 h4 _ _).imp fun v s h => h) fun v s5 k5 hv => ?_
    subst hv
    have f5 := f4.trans k5
    simp -implicitDefEqProofs (disch := first | decide | omega)
    refine Rg.dc (fun v => v = uv (fadd (pC p.field.toNat) (totV (pC p.field.toNat) g a) (fmul (pC p.field.toNat) (g.q 3) (wrV g a 2)))) f5.wf (by decide) (by decide) ((add_ok ((hg.fr f5).glo.low _) h0 h4 _ _).imp fun v s h => h) fun v s6 k6 hv => ?_
    subst hv
    simp -implicitDefEqProofs (disch := first | decide | omega)
    refine Rg.ret (hP _ _ (Ru.ret (hQ _ _ (.one rfl ⟨f5.trans k6, _, rfl, ?_⟩))))
    unfold HoldR
    rw [if_pos h]; simp
  simp at h
  refine Ru.rs fun P hP => ?_
  simp -implicitDefEqProofs (disch := first | decide | omega)
  refine Rg.ret (hP _ _ ?_)
  clear hP P
  refine Ru.cond rfl (fun h2 => ?_) fun h2 => ?_
  · simp at h2
    have hwi := hin 0 (by decide) (readsD2 h2)
    obtain ⟨id, o, hx, hc⟩ := vlE (Sat.fr ha f2) hwi.1 hwi.2
    refine Ru.rs fun P hP => ?_
    simp -implicitDefEqProofs (disch := first | decide | omega) [b7.rd 1 _ rfl, hx, hc]
    refine Rg.ret (hP _ _ (Ru.ret (hQ _ _ (.one rfl ⟨f2, _, rfl, ?_⟩))))
    unfold HoldR
    rw [if_neg h, if_pos h2]; simp
  simp at h2
  have fin : ∀ (ρ : Ev) (s : St), Fr st s → HoldR p.field.toNat p.rows i g a → Ru (cF F) (.seq (.reg [q6] fun c r s K => K [tt] s) .ret) ρ s Q := fun ρ s k hh =>
    Ru.sreg (Rg.ret (Ru.ret (hQ _ _ (.one rfl ⟨k, true, rfl, by simp [hh]⟩))))
  refine Ru.rs fun P hP => ?_
  simp -implicitDefEqProofs (disch := first | decide | omega)
  refine Rg.ret (hP _ _ ?_)
  clear hP P
  refine Ru.cond rfl (fun h3 => ?_) fun h3 => Ru.skip ?_
  rotate_left
  · simp at h3
    simp only [Then, Out]
    refine fin _ _ f2 ?_
    unfold HoldR
    rw [if_neg h, if_neg h2, if_neg h3]; trivial
  simp at h3
  obtain ⟨g', hg', hw4⟩ := hnx h3
  have hwr : ∀ j, j < 4 → 0 ≤ g.w j ∧ g.w j < a.length := fun j hj => hin j hj (readsD3 h3 j)
  obtain ⟨_, r0, r8, _⟩ := hfm
  refine Ru.rs fun P hP => ?_
  simp -implicitDefEqProofs (disch := first | decide | omega) [b3b.rd 0 _ rfl, b7.N (n := 11) rfl]
  refine Rg.call (turned_ok (hg.fr f2) h0 h4 g r0 r8 (Sat.fr ha f2) hwr) fun v s3 hv => ?_
  obtain ⟨k3, rfl⟩ := hv
  refine Rg.ret (hP _ _ ?_)
  clear hP P
  have f3 := f2.trans k3
  have b3c := b3b.fr k3
  have hpr := Sat.fr hp f3
  obtain ⟨id, o, hx, hc, _⟩ := elt (f := gateC) (z := 11) (fun _ => rfl) hpr hg'
  have hx' : ∀ K, ixs 11 (V.sc p.sl) (iv ((i : Int) + 1)) K = K (.sc (.ptr id o)) := fun K => by
    have := hx K
    rwa [show ((i + 1 : Nat) : Int) = (i : Int) + 1 by omega] at this
  have hil := (List.getElem?_eq_some_iff.1 hgi).1
  refine Ru.at (fun ρ => ρ q3 = .sc (.ptr st.next 0) ∧ ρ q1 = .sc y ∧ ρ q2 = iv i ∧ ρ q51 = .agg (fourC (rndV p.field.toNat g.round fun j => vl a (g.w j))) ∧ ρ q52 = iv 0) ⟨rfl, rfl, rfl, rfl, rfl⟩ fun ρ0 hE => ?_
  obtain ⟨e3, e1, e2, e51, e52⟩ := hE
  refine Ru.block (Ru.lp [q3, q1, q2, q51] (fun j : Nat => 4 - j) (fun j ρ s => j ≤ 4 ∧ ρ q52 = iv j ∧ s = s3 ∧ rndOk p.field.toNat g g' a j)
    ⟨0, Nat.zero_le _, e52, rfl, fun k hk => by omega⟩ fun j ρ s hk hI => ?_)
  clear e52
  obtain ⟨hj4, e52, hs, hall⟩ := hI
  subst s
  refine Ru.rs fun P hP => ?_
  simp -implicitDefEqProofs (disch := first | decide | omega) [hk.e, e52]
  refine Rg.ret (hP _ _ ?_)
  clear hP P
  refine Ru.seq (Ru.cond rfl (fun h => Ru.skip ?_) fun h => Ru.exit ?_)
  rotate_left
  · simp at h
    obtain rfl : j = 4 := by omega
    simp only [Then, Out, if_true]
    refine fin _ _ f3 ?_
    unfold HoldR
    rw [if_neg ‹_›, if_neg h2, if_pos h3]
    exact ⟨g', hg', hall⟩
  simp at h
  have hj : j < 4 := by omega
  simp only [Then, Out]
  have hwj := hw4 j hj
  obtain ⟨id2, o2, hx2, hc2⟩ := vlE (Sat.fr ha f3) hwj.1 (by omega)
  have hgw : rd s3 id (o + 1 + j) = some (is (g'.w j)) := by
    rw [Nat.add_assoc]
    refine hc (1 + j) _ ?_
    rcases (show j = 0 ∨ j = 1 ∨ j = 2 ∨ j = 3 by omega) with rfl | rfl | rfl | rfl <;> rfl
  have hix : ∀ (c : CallK) (r : Ev) (K : V → St → R), h_op2_idxV 4 1 false (.c (.agg (fourC (rndV p.field.toNat g.round fun j => vl a (g.w j))))) (.c (iv j)) c r s3 K = K (uv (rndV p.field.toNat g.round (fun j => vl a (g.w j)) j)) s3 := fun c r K => idxV_sc c r K hj (fourC_get _ j hj)
  refine Ru.seq (Ru.block (Ru.rs fun P hP => ?_))
  simp -implicitDefEqProofs (disch := first | decide | omega) [hk.e, e51, e52, hix]
  refine Rg.ret (hP _ _ ?_)
  clear hP P
  refine Ru.rs fun P hP => ?_
  simp -implicitDefEqProofs (disch := first | decide | omega) [hk.e, e1, e2, e3, b3c.rd 4 _ rfl, hx', hgw, hx2, hc2]
  refine Rg.ret (hP _ _ ?_)
  clear hP P
  refine Ru.cond rfl (fun hh => ?_) fun hh => Ru.skip ?_
  · simp at hh
    refine Ru.sreg (Rg.ret (Ru.ret (hQ _ _ (.one rfl ⟨f3, false, rfl, ?_⟩))))
    simp only [Bool.false_eq_true, false_iff]
    unfold HoldR
    rw [if_neg ‹_›, if_neg h2, if_pos h3]
    rintro ⟨g2, hg2, hr⟩
    rw [hg'] at hg2
    cases hg2
    exact hh (hr j hj)
  simp at hh
  simp only [Then, Out]
  refine Ru.r1 fun P hP => ?_
  simp -implicitDefEqProofs (disch := first | decide | omega) [e52]
  refine Rg.ret (hP _ _ ⟨by repeat first | exact hk | refine Keep.up (by rfl) ?_, j + 1, by omega, by omega, rfl, rfl, fun k hk => ?_⟩)
  rcases (show k < j ∨ k = j by omega) with h | rfl
  · exact hall k h
  · exact hh
end Go.Proofs.YticfndhcbjcklaaDoor.Ev
namespace Go.Proofs.YticfndhcbjcklaaDoor.Ev
set_option linter.unusedSimpArgs false
set_option linter.unusedVariables false
variable {st s t : St} {n i id off : Nat}
/-! calls that write what was there -/
structure Kw (W : Nat → Prop) (s t : St) : Prop where
  next : s.next ≤ t.next
  old : ∀ id b, ¬ W id → s.heap.get id = some b → t.heap.get id = some b
  low : ∀ a, a ≤ s.next → (∀ id, W id → a ≤ id) → min s.low a ≤ t.low
  low' : t.low ≤ s.low
  wf : WfS t
section
variable {W : Nat → Prop}
theorem Kw.of {o : Nat} (k : Kp (some o) s t) (h : W o) : Kw W s t :=
  ⟨k.next, fun id b hn hb => k.old id b (fun he => by cases he; exact hn h) hb, fun a ha hw => k.low a ha fun id he => by cases he; exact hw _ h, k.low', k.wf⟩
theorem Fr.kw (k : Fr s t) : Kw W s t := ⟨k.next, fun id b _ hb => k.old id b hb, fun a ha _ => by have := k.low; omega, k.low', k.wf⟩
theorem Kw.trans {u : St} (h : Kw W s t) (k : Kw W t u) : Kw W s u :=
  ⟨Nat.le_trans h.next k.next, fun id b hn hb => k.old id b hn (h.old id b hn hb), fun a ha hw => by have := h.low a ha hw; have := k.low a (Nat.le_trans ha h.next) hw; omega, Nat.le_trans k.low' h.low', k.wf⟩
theorem Kw.fr {u : St} (k : Kw W s t) (h : Fr u s) (ho : ∀ id, W id → u.next ≤ id) (hu : WfS u) : Fr u t :=
  ⟨Nat.le_trans h.next k.next, fun id b hb => k.old id b (fun he => by have := ho id he; rw [hu id this] at hb; cases hb) (h.old id b hb), by have := k.low u.next h.next ho; have := h.low; omega, Nat.le_trans k.low' h.low', k.wf⟩
theorem Kw.rd (k : Kw W s t) (ho : ¬ W id) {x : S} (hx : rd s id i = some x) : rd t id i = some x := by
  unfold Ev.rd at *
  cases hb : s.heap.get id with
  | none => rw [hb] at hx; cases hx
  | some b => rw [hb] at hx; rw [k.old id b ho hb]; exact hx
theorem Bx.kw {l : List S} (h : Bx s id l) (k : Kw W s t) (ho : ¬ W id) : Bx t id l := by
  obtain ⟨⟨b, h1, h2⟩, h3, h4⟩ := h
  exact ⟨⟨b, k.old id b ho h1, h2⟩, fun i y hy => k.rd ho (h3 i y hy), Nat.lt_of_lt_of_le h4 k.next⟩
theorem Bx.low {l : List S} (h : Bx s id l) (n : Nat) : Bx (setLow s n) id l := by cases s; exact ⟨h.own, h.rd, h.lt⟩
theorem Bx.relow {l : List S} {h : PM Blk} {nx a b : Nat} (k : Bx ⟨h, nx, a⟩ id l) : Bx ⟨h, nx, b⟩ id l := ⟨k.own, k.rd, k.lt⟩
theorem Rg.dcw {C : Nat → CallK} {al lm sm hv : Nat} {ll ss : List (Nat × Nat)} {bit pre f : Nat} {args : List V} (P1 : St → Prop) {P : List V → St → Prop} (hw : WfS s) (h1 : sub' al pre = true) (h2 : sub' sm pre = true) (h3 : sub' hv pre = true) (h4 : sub' lm pre = true)
    (hr : ∀ h nx a b, P1 ⟨h, nx, a⟩ → P1 ⟨h, nx, b⟩)
    (h : Ca C f args (setLow s s.next) (fun v s' => Kw W (setLow s s.next) s' ∧ P1 s')) (k : ∀ t, Kw W s t → P1 t → P [] t) : Rg C (fun c K => Ev.dw3 ⟨al, lm, sm, hv, [], ll, ss⟩ bit pre s (fun s q => c f args s q) (fun _ _ s => K [] s)) P := by
  obtain ⟨v, s', ⟨k1, k2⟩, n, h5⟩ := h
  cases s' with
  | mk hp nx lo =>
  cases s with
  | mk hp0 nx0 lo0 =>
  have kl : ∀ a, a ≤ nx0 → (∀ id, W id → a ≤ id) → a ≤ lo := fun a ha hi => by
    have := k1.low a ha hi
    have h6 : min nx0 a ≤ lo := this
    omega
  by_cases hlo : lo < nx0
  · refine ⟨[], ⟨hp, nx, min lo0 lo⟩, k _ ⟨k1.next, k1.old, fun a ha hi => ?_, Nat.min_le_left _ _, k1.wf⟩ (hr _ _ _ _ k2), n, fun x hx K => ?_⟩
    · have := kl a ha hi
      show min lo0 a ≤ min lo0 lo
      omega
    · show iteB (okH _ pre) (C x f args (setLow ⟨hp0, nx0, lo0⟩ nx0) fun v st' => heavyK nx0 lo0 pre bit _ (fun mk st => K [] st) st') (.fail 89) = _
      rw [okH_all h1 h2, iteB_true]
      have := h5 x hx (fun v st' => heavyK nx0 lo0 pre bit ⟨al, lm, sm, hv, [], ll, ss⟩ (fun mk st => K [] st) st')
      refine this.trans ?_
      show iteB (Nat.blt lo nx0) (iteB (and' (sub' hv pre) (or' (sub' lm pre) (under pre lo ll))) (minK lo0 lo fun l' => mkW _ bit lo fun mk => K [] ⟨hp, nx, l'⟩) (.fail 90)) _ = _
      rw [show Nat.blt lo nx0 = true from Nat.ble_eq_true_of_le hlo, iteB_true, h3, h4]
      show minK lo0 lo (fun l' => mkW _ bit lo fun mk => K [] ⟨hp, nx, l'⟩) = _
      rw [minK_eq, mkW_eq]
  · refine ⟨[], ⟨hp, nx, lo0⟩, k _ ⟨k1.next, k1.old, fun a ha hi => Nat.min_le_left _ _, Nat.le_refl _, k1.wf⟩ (hr _ _ _ _ k2), n, fun x hx K => ?_⟩
    show iteB (okH _ pre) (C x f args (setLow ⟨hp0, nx0, lo0⟩ nx0) fun v st' => heavyK nx0 lo0 pre bit _ (fun mk st => K [] st) st') (.fail 89) = _
    rw [okH_all h1 h2, iteB_true]
    have := h5 x hx (fun v st' => heavyK nx0 lo0 pre bit ⟨al, lm, sm, hv, [], ll, ss⟩ (fun mk st => K [] st) st')
    refine this.trans ?_
    show iteB (Nat.blt lo nx0) _ (mkH _ bit fun mk => K [] ⟨hp, nx, lo0⟩) = _
    rw [show Nat.blt lo nx0 = false by rw [← Bool.not_eq_true]; intro hh; exact hlo (blt_of hh), iteB_false, mkH_mk]
end
theorem callV_cap2 (f : Nat) (hf : Nat.blt f yBase = true) (l : List S) (v w : V) (c : CallK) (r : Ev) (K : V → St → R) : h_op4_callV (.c (.sc (capsOf f l))) [.c v, .c w] c r st K = c f (v :: w :: l.map V.sc) st K := by
  show (match uncap (capsOf f l) with | some (f, l) => evL r [.c v, .c w] fun a => seqL (a ++ l) fun a => c f a st K | none => .fail 51) = _
  rw [uncap_caps f hf l]
  show seqL ([v, w] ++ l.map V.sc) (fun a => c f a st K) = _
  rw [seqL_eq]; rfl
theorem resP.none {ρ : Ev} {st : St} {P : V → St → Prop} (h : P (.tup []) st) : resP [] ρ st P := ⟨.tup [], h, fun K tm _ => rfl⟩
theorem Ca.ofN {F : Nat → Option HF} {f : Nat} {hf : HF} {args : List V} {st : St} {P : V → St → Prop} (h0 : F f = some hf) (hb : Nat.blt f yBase = true) {b : HC} (ags : List Pth) (rs : List RV) (eb : hf.body = b) (ea : hf.args = ags) (er : hf.results = rs)
    (h : ∀ Q : X → Ev → St → Prop, (∀ ρ s, resP rs ρ s P → Q .ret ρ s ∧ Q .normal ρ s) → Ru (cF F) b (updE ags args ev0) st Q) : Ca (cF F) f args st P := by
  subst eb; subst ea; subst er
  replace h := h (Fin hf.results P) (fun ρ s h => ⟨h, h⟩)
  obtain ⟨x, t, s, h1, n, h2⟩ := h (setLp hf.args args .leaf) (by rw [rho_setLp, rho_leaf])
  have main : (x = .normal ∨ x = .ret) ∧ resP hf.results (rho t) s P := by
    cases x with
    | normal => exact ⟨.inl rfl, h1⟩
    | ret => exact ⟨.inr rfl, h1⟩
    | exit i => exact h1.elim
  obtain ⟨hx, v, hv, hr⟩ := main
  refine ⟨v, s, hv, n, fun m hm K => ?_⟩
  show iteB (Nat.blt f yBase) (Option.rec (motive := fun _ => R) (.fail 94) (callF (run F m) args st K) (F f)) _ = _
  rw [hb, iteB_true, h0]
  show setL hf.args args .leaf (fun tm => retK hf.results K (run F m hf.body tm st)) = _
  rw [setL_eq', ← runC_F, h2 m hm]
  rcases hx with rfl | rfl
  · exact hr K t rfl
  · exact hr K t rfl
/-! a value is set once -/
abbrev KV := List Bool × List Nat
def setV (kv : KV) (v x : Nat) : KV := if kv.1.getD v true = true then kv else (kv.1.set v true, kv.2.set v x)
theorem setV_len (kv : KV) (v x : Nat) : (setV kv v x).1.length = kv.1.length ∧ (setV kv v x).2.length = kv.2.length := by
  unfold setV; split <;> simp
/-- the two lists that a run keeps -/
structure KS (s : St) (bk bv ik iv n : Nat) (kv : KV) : Prop where
  lk : kv.1.length = n
  lv : kv.2.length = n
  pk : Bx s bk [.slice ik 0 n (some n) 1]
  pv : Bx s bv [.slice iv 0 n (some n) 1]
  dk : Bx s ik (kv.1.map S.bool)
  dv : Bx s iv (kv.2.map us)
  o1 : bv < bk
  o2 : iv < bv
  o3 : ik < bk
  o4 : bv < ik
abbrev Wkv (ik iv : Nat) : Nat → Prop := fun id => id = ik ∨ id = iv
theorem KS.fr {bk bv ik jv n : Nat} {kv : KV} (h : KS s bk bv ik jv n kv) (k : Fr s t) : KS t bk bv ik jv n kv := ⟨h.lk, h.lv, h.pk.fr k, h.pv.fr k, h.dk.fr k, h.dv.fr k, h.o1, h.o2, h.o3, h.o4⟩
theorem KS.low {bk bv ik jv n : Nat} {kv : KV} (h : KS s bk bv ik jv n kv) (m : Nat) : KS (setLow s m) bk bv ik jv n kv := ⟨h.lk, h.lv, h.pk.low m, h.pv.low m, h.dk.low m, h.dv.low m, h.o1, h.o2, h.o3, h.o4⟩
theorem KS.relow {bk bv ik jv n : Nat} {kv : KV} {h : PM Blk} {nx a b : Nat} (k : KS ⟨h, nx, a⟩ bk bv ik jv n kv) : KS ⟨h, nx, b⟩ bk bv ik jv n kv := ⟨k.lk, k.lv, k.pk.relow, k.pv.relow, k.dk.relow, k.dv.relow, k.o1, k.o2, k.o3, k.o4⟩
theorem set_ok (hw : WfS st) {bk bv ik jv n : Nat} {kv : KV} (h : KS st bk bv ik jv n kv) (v : Int) (v0 : 0 ≤ v) (vn : v < n) (x : Nat) :
    Ca (cF F) 37 [iv v, uv x, .sc (.ptr bk 0), .sc (.ptr bv 0)] st (fun _ s => Kw (Wkv ik jv) st s ∧ KS s bk bv ik jv n (setV kv v.toNat x)) := by
  refine Ca.ofN (hf := cf37) rfl rfl [q0, q1, q2, q3] [] rfl rfl rfl fun Q hQ => ?_
  obtain ⟨m, rfl⟩ := Int.eq_ofNat_of_zero_le v0
  have hm : m < n := by omega
  have hkl := h.lk
  have hvl := h.lv
  have hgk := List.getElem?_eq_getElem (l := kv.1) (i := m) (by omega)
  generalize hkb : kv.1[m] = kb at hgk
  have hrk : rd st ik m = some (.bool kb) := h.dk.rd m _ (by rw [List.getElem?_map, hgk]; rfl)
  have hgd : kv.1.getD m true = kb := by rw [List.getD_eq_getElem?_getD, hgk]; rfl
  have oo1 := h.o1
  have oo2 := h.o2
  have oo3 := h.o3
  have oo4 := h.o4
  refine Ru.rs fun P hP => ?_
  simp -implicitDefEqProofs (disch := first | decide | omega) [h.pk.rd 0 _ rfl, hrk]
  refine Rg.ret (hP _ _ ?_)
  clear hP P
  refine Ru.cond rfl (fun hh => ?_) fun hh => Ru.skip ?_
  rotate_left
  · simp at hh
    refine (hQ _ _ (resP.none ⟨(Fr.refl hw).kw, ?_⟩)).2
    unfold setV
    rw [Int.toNat_natCast, hgd, if_pos hh]
    exact h
  simp at hh
  have d1 := fun (al lm sm hv : Nat) (ll ss : List (Nat × Nat)) (n0 bit pre : Nat) (x : S) (K : V → Mk → St → R) (hh : okS ⟨al, lm, sm, hv, [], ll, ss⟩ n0 pre ik = true) => dS_ok (st := st) (off := m) (bit := bit) h.dk.own (by rw [List.length_map]; omega) x K hh
  have kw1 := h.dk.kpw hw (i := m) [.bool true]
  have dk1 := h.dk.set (i := m) (by rw [List.length_map]; omega) (.bool true)
  have dv1 := h.dv.kp kw1 (ne_some (by omega))
  have d2 := fun (al lm sm hv : Nat) (ll ss : List (Nat × Nat)) (n0 bit pre : Nat) (x : S) (K : V → Mk → St → R) (hh : okS ⟨al, lm, sm, hv, [], ll, ss⟩ n0 pre jv = true) => dS_ok (st := wr st ik m [.bool true]) (off := m) (bit := bit) dv1.own (by rw [List.length_map]; omega) x K hh
  have kw2 := dv1.kpw kw1.wf (i := m) [us x]
  have dv2 := dv1.set (i := m) (by rw [List.length_map]; omega) (us x)
  refine Ru.d1 fun P hP => ?_
  simp -implicitDefEqProofs (disch := first | decide | omega | (apply okS_t; decide; (simp (decide := true) <;> omega))) [h.pk.rd 0 _ rfl, h.pv.rd 0 _ rfl, d1, d2]
  refine Rg.ret (hP _ _ (hQ _ _ (resP.none ⟨(Kw.of kw1 (.inl rfl)).trans (Kw.of kw2 (.inr rfl)), ?_⟩)).2)
  have e : setV kv m x = (kv.1.set m true, kv.2.set m x) := by unfold setV; rw [if_neg (by rw [hgd, hh]; simp)]
  rw [Int.toNat_natCast, e]
  refine ⟨by simp [hkl], by simp [hvl], (h.pk.kp kw1 (ne_some (by omega))).kp kw2 (ne_some (by omega)), (h.pv.kp kw1 (ne_some (by omega))).kp kw2 (ne_some (by omega)), ?_, ?_, oo1, oo2, oo3, oo4⟩
  · have := dk1.kp kw2 (ne_some (by omega)); rw [List.map_set]; exact this
  · rw [List.map_set]; exact dv2
end Go.Proofs.YticfndhcbjcklaaDoor.Ev
namespace Go.Proofs.YticfndhcbjcklaaDoor.Ev
set_option linter.unusedSimpArgs false
set_option linter.unusedVariables false
variable {st s t : St} {n i id off : Nat}
/-! the run, as a law -/
def rndTo (x : Nat) (g g' : GateD) (kv : KV) : Nat → KV
  | 0 => kv
  | j + 1 => setV (rndTo x g g' kv j) (g'.w j).toNat (rndV x g.round (fun j => vl kv.2 (g.w j)) j)
def stepV (x : Nat) (L : List GateD) (i : Nat) (kv : KV) : KV := match L[i]? with
  | none => kv
  | some g => if g.kind = 3 then (match L[i + 1]? with | some g' => rndTo x g g' kv 4 | none => kv)
    else if g.q 3 ≠ 0 then setV kv (g.w 2).toNat (fneg (pC x) (fmul (pC x) (totV (pC x) g kv.2) (invV (pC x) (g.q 3)))) else kv
def runTo (x : Nat) (L : List GateD) (kv : KV) : Nat → KV
  | 0 => kv
  | i + 1 => stepV x L i (runTo x L kv i)
def knL (n k : Nat) : List Bool := (List.range n).map fun j => decide (j < k)
theorem knL_len (n k : Nat) : (knL n k).length = n := by simp [knL]
theorem knL_zero (n : Nat) : knL n 0 = List.replicate n false := by
  apply List.ext_getElem
  · simp [knL]
  · intro i h1 h2; simp [knL]
theorem knL_set (n k : Nat) (h : k < n) : (knL n k).set k true = knL n (k + 1) := by
  apply List.ext_getElem
  · simp [knL]
  · intro i h1 h2
    simp [knL, List.getElem_set]
    by_cases hk : k = i
    · subst hk; simp
    · simp [hk]; omega
def v0L (n : Nat) (a b : List Nat) : List Nat := a ++ b ++ List.replicate (n - a.length - b.length) 0
theorem v0L_len {n : Nat} {a b : List Nat} (h : a.length + b.length ≤ n) : (v0L n a b).length = n := by simp [v0L]; omega
def kv0 (p : GatesD) (a b : List Nat) : KV := (knL p.vars.toNat (p.pub + p.sec).toNat, v0L p.vars.toNat a b)
def runV (p : GatesD) (a b : List Nat) : KV := runTo p.field.toNat p.rows (kv0 p a b) p.rows.length
def AllHold (p : GatesD) (a : List Nat) : Prop := ∀ i g, p.rows[i]? = some g → HoldR p.field.toNat p.rows i g a
theorem rndTo_len (x : Nat) (g g' : GateD) (kv : KV) : ∀ j, (rndTo x g g' kv j).1.length = kv.1.length ∧ (rndTo x g g' kv j).2.length = kv.2.length
  | 0 => ⟨rfl, rfl⟩
  | j + 1 => by
    have h1 := rndTo_len x g g' kv j
    have h2 := setV_len (rndTo x g g' kv j) (g'.w j).toNat (rndV x g.round (fun j => vl kv.2 (g.w j)) j)
    exact ⟨h2.1.trans h1.1, h2.2.trans h1.2⟩
theorem stepV_len (x : Nat) (L : List GateD) (i : Nat) (kv : KV) : (stepV x L i kv).1.length = kv.1.length ∧ (stepV x L i kv).2.length = kv.2.length := by
  unfold stepV
  split
  · exact ⟨rfl, rfl⟩
  · split
    · split
      · exact rndTo_len _ _ _ _ _
      · exact ⟨rfl, rfl⟩
    · split
      · exact setV_len _ _ _
      · exact ⟨rfl, rfl⟩
theorem runTo_len (x : Nat) (L : List GateD) (kv : KV) : ∀ i, (runTo x L kv i).1.length = kv.1.length ∧ (runTo x L kv i).2.length = kv.2.length
  | 0 => ⟨rfl, rfl⟩
  | i + 1 => by
    have h1 := runTo_len x L kv i
    have h2 := stepV_len x L i (runTo x L kv i)
    exact ⟨h2.1.trans h1.1, h2.2.trans h1.2⟩
theorem Bx.mkz (x : S) : Bx (mkz st n 1 [x]) st.next (List.replicate n x) := by
  refine ⟨by have := own_mkz (st := st) (n := n) [x] 1; rw [List.length_replicate]; rwa [Nat.mul_one] at this, fun i y hy => ?_, by rw [next_mkz]; omega⟩
  rw [List.getElem?_replicate] at hy
  split at hy
  · cases hy
    rw [rd_mkz, if_pos rfl, if_pos (by omega)]
    simp [zAt, Nat.mod_one]
  · cases hy
theorem Bx.cpd {l l' : List S} (h : Bx s id l) (c : Cpd s t id off l') (hl : off + l'.length ≤ l.length) : Bx t id (l.take off ++ l' ++ l.drop (off + l'.length)) := by
  refine ⟨?_, fun i y hy => ?_, by rw [c.next]; exact h.lt⟩
  · have e : (l.take off ++ l' ++ l.drop (off + l'.length)).length = l.length := by simp; omega
    rw [e]; exact c.own _ _ h.own
  · rw [c.rd]
    have e1 : (l.take off ++ l').length = off + l'.length := by simp; omega
    by_cases h1 : i < off + l'.length
    · rw [List.getElem?_append_left (by rw [e1]; exact h1)] at hy
      by_cases h2 : i < off
      · rw [List.getElem?_append_left (by rw [List.length_take]; omega), List.getElem?_take, if_pos h2] at hy
        rw [if_neg (by omega)]
        exact h.rd i y hy
      · rw [List.getElem?_append_right (by rw [List.length_take]; omega), List.length_take, Nat.min_eq_left (by omega)] at hy
        rw [if_pos ⟨rfl, by omega, h1⟩]; exact hy
    · rw [List.getElem?_append_right (by rw [e1]; omega), e1, List.getElem?_drop] at hy
      rw [if_neg (by omega)]
      rw [show off + l'.length + (i - (off + l'.length)) = i by omega] at hy
      exact h.rd i y hy
theorem KS.vals {bk bv ik jv n : Nat} {kv : KV} (h : KS s bk bv ik jv n kv) : RepN s (.slice jv 0 n (some n) 1) kv.2 := by
  have hl := h.lv
  unfold RepN
  rw [hl]
  exact sat_of_rd h.dv.own (by simp [hl]) (fun m hm => by cases hm; exact Nat.le_refl _) fun i x hx => by rw [Nat.zero_add]; exact h.dv.rd i x hx
theorem KS.kw {bk bv ik jv n : Nat} {kv : KV} (h : KS s bk bv ik jv n kv) : ∀ id, Wkv ik jv id → jv ≤ id := fun id hid => by
  have := h.o2; have := h.o4
  rcases hid with rfl | rfl <;> omega
theorem grun_ok (hg : Glo2 st) (p : GatesD) (hp : RepRows st p.sl p.rows) (hV : ValidG p) {ya yb : S} {a b : List Nat} (ha : RepN st ya a) (hb : RepN st yb b) (hal : (a.length : Int) = p.pub) (hbl : (b.length : Int) = p.sec) (hap : ∀ k ∈ a, k < pC p.field.toNat) (hbp : ∀ k ∈ b, k < pC p.field.toNat) :
    Ca (cF F) 20 [.agg (gC p), .sc ya, .sc yb] st (fun v s => Fr st s ∧ ∃ y e, v = .tup [(false, [y]), (false, [.bool e]), (false, [is 0])] ∧ RepN s y (runV p a b).2 ∧ (e = true ↔ AllHold p (runV p a b).2)) := by
  refine Ca.of (hf := cf20) rfl rfl [q0, q1, q2] [.tmp q6, .tmp q7, .tmp q8] rfl rfl rfl fun Q hQ => ?_
  obtain ⟨c1, c2, c3, c4, c5, c6, c7, c8, c9⟩ := hV.base
  have hw := hg.glo.wf
  have f1 := (Fr.refl hw).new (gC p)
  have b3 : Bx (new st (gC p)) st.next (gC p) := Bx.new
  refine Ru.rs fun P hP => ?_
  simp -implicitDefEqProofs (disch := first | decide | omega)
  refine Rg.ret (hP _ _ ?_)
  clear hP P
  have hn1 : (new st (gC p)).next = st.next + 1 := rfl
  generalize new st (gC p) = s1 at *
  refine Ru.seq (Ru.rs fun P hP => ?_)
  simp -implicitDefEqProofs (disch := first | decide | omega) [b3.N (n := 5) rfl]
  refine Rg.call (valid_ok (hg.fr f1).glo p (Sat.fr hp f1) (by omega)) fun v s2 hv => ?_
  obtain ⟨k2, bb, rfl, hbb⟩ := hv
  rw [hbb.2 hV]
  have b3b := b3.fr k2
  have f2 := f1.trans k2
  have ha2 := Sat.fr ha f2
  have hb2 := Sat.fr hb f2
  simp -implicitDefEqProofs (disch := first | decide | omega) [b3b.rd 0 _ rfl, b3b.rd 2 _ rfl, b3b.rd 3 _ rfl, lnS_sat ha2, lnS_sat hb2]
  refine Rg.call (elements_ok (hg.fr f2).glo c1 c2 ha2 (by omega)) fun v s3 hv => ?_
  obtain ⟨k3, b1, rfl, hb1⟩ := hv
  rw [hb1.2 hap]
  have b3c := b3b.fr k3
  simp -implicitDefEqProofs (disch := first | decide | omega) [b3c.rd 0 _ rfl]
  refine Rg.call (elements_ok ((hg.fr f2).fr k3).glo c1 c2 (Sat.fr hb2 k3) (by omega)) fun v s4 hv => ?_
  obtain ⟨k4, b2, rfl, hb2'⟩ := hv
  rw [hb2'.2 hbp]
  have b3d := b3c.fr k4
  have f4 := f2.trans (k3.trans k4)
  simp -implicitDefEqProofs (disch := first | decide | omega)
  refine Rg.ret (hP _ _ (Ru.cond rfl (fun h => by cases h) fun _ => Ru.skip ?_))
  clear hP P b3 b3b b3c ha2 hb2 hb1 hb2' hbb f2 k2 k3 k4
  simp only [Then, Out]
  obtain ⟨n, hn⟩ := Int.eq_ofNat_of_zero_le (show 0 ≤ p.vars by omega)
  have hnN : p.vars.toNat = n := by omega
  have hps : (p.pub + p.sec).toNat = a.length + b.length := by omega
  have hle : a.length + b.length ≤ n := by omega
  have hn4 : n ≤ 40000 := by omega
  -- the values
  refine Ru.rs fun P hP => ?_
  have hxM : ∀ (cl : CallK) (ρ : Ev) (K : V → St → R), xM 1 8 [us 0] (iv (n : Int)) (iv (n : Int)) cl ρ s4 K = K (.sc (.slice s4.next 0 n (some n) 1)) (mkz s4 n 1 [us 0]) := fun cl ρ K => xM_eq 1 8 n n _ cl ρ K (Nat.le_refl _) (by omega) (by omega)
  simp -implicitDefEqProofs (disch := first | decide | omega) [b3d.rd 1 _ rfl, hn, hxM, Bx.new.sto (s := new (mkz s4 n 1 [us 0]) [.nils]) (id := s4.next + 1) (i := 0)]
  refine Rg.ret (hP _ _ ?_)
  clear hP P hxM
  have km := fr_mkz (n := n) (Fr.refl f4.wf) [us 0] 1
  have kw : Fr (mkz s4 n 1 [us 0]) (wr (new (mkz s4 n 1 [us 0]) [.nils]) (s4.next + 1) 0 [.slice s4.next 0 n (some n) 1]) := fr_mk km.wf [.nils] [.slice s4.next 0 n (some n) 1]
  have pv : Bx (wr (new (mkz s4 n 1 [us 0]) [.nils]) (s4.next + 1) 0 [.slice s4.next 0 n (some n) 1]) (s4.next + 1) [.slice s4.next 0 n (some n) 1] := Bx.mk' (s := mkz s4 n 1 [us 0]) rfl
  have dv : Bx (wr (new (mkz s4 n 1 [us 0]) [.nils]) (s4.next + 1) 0 [.slice s4.next 0 n (some n) 1]) s4.next (List.replicate n (us 0)) := (Bx.mkz (st := s4) (us 0)).fr kw
  have k5 := km.trans kw
  have b35 := b3d.fr k5
  have f5 := f4.trans k5
  have hn5 : (wr (new (mkz s4 n 1 [us 0]) [.nils]) (s4.next + 1) 0 [.slice s4.next 0 n (some n) 1]).next = s4.next + 2 := by rw [wr_next]; rfl
  have hj3 : st.next < s4.next := b3d.lt
  clear km kw k5 b3d
  generalize wr (new (mkz s4 n 1 [us 0]) [.nils]) (s4.next + 1) 0 [.slice s4.next 0 n (some n) 1] = s5 at *
  generalize s4.next = jv at *
  -- what is known
  refine Ru.rs fun P hP => ?_
  have hxM : ∀ (cl : CallK) (ρ : Ev) (K : V → St → R), xM 1 1 [.bool false] (iv (n : Int)) (iv (n : Int)) cl ρ s5 K = K (.sc (.slice s5.next 0 n (some n) 1)) (mkz s5 n 1 [.bool false]) := fun cl ρ K => xM_eq 1 1 n n _ cl ρ K (Nat.le_refl _) (by omega) (by omega)
  simp -implicitDefEqProofs (disch := first | decide | omega) [b35.rd 1 _ rfl, hn, hxM, Bx.new.sto (s := new (mkz s5 n 1 [.bool false]) [.nils]) (id := s5.next + 1) (i := 0)]
  refine Rg.ret (hP _ _ ?_)
  clear hP P hxM
  have km := fr_mkz (n := n) (Fr.refl f5.wf) [.bool false] 1
  have kw : Fr (mkz s5 n 1 [.bool false]) (wr (new (mkz s5 n 1 [.bool false]) [.nils]) (s5.next + 1) 0 [.slice s5.next 0 n (some n) 1]) := fr_mk km.wf [.nils] [.slice s5.next 0 n (some n) 1]
  have pk : Bx (wr (new (mkz s5 n 1 [.bool false]) [.nils]) (s5.next + 1) 0 [.slice s5.next 0 n (some n) 1]) (s5.next + 1) [.slice s5.next 0 n (some n) 1] := Bx.mk' (s := mkz s5 n 1 [.bool false]) rfl
  have dk : Bx (wr (new (mkz s5 n 1 [.bool false]) [.nils]) (s5.next + 1) 0 [.slice s5.next 0 n (some n) 1]) s5.next (List.replicate n (.bool false)) := (Bx.mkz (st := s5) (.bool false)).fr kw
  have k6 := km.trans kw
  have b36 := b35.fr k6
  have f6 := f5.trans k6
  have pv6 := pv.fr k6
  have dv6 := dv.fr k6
  have hn6 : (wr (new (mkz s5 n 1 [.bool false]) [.nils]) (s5.next + 1) 0 [.slice s5.next 0 n (some n) 1]).next = s5.next + 2 := by rw [wr_next]; rfl
  clear km kw k6 b35 pv dv
  generalize wr (new (mkz s5 n 1 [.bool false]) [.nils]) (s5.next + 1) 0 [.slice s5.next 0 n (some n) 1] = s6 at *
  generalize s5.next = ik at *
  -- the inputs
  have ha6 := Sat.fr ha f6
  have o6 := dv6.own
  rw [List.length_replicate] at o6
  obtain ⟨s7, g1, g2⟩ := copy_any (o := some n) (off := 0) (c := n) f6.wf ha6 o6 (by omega)
  refine Ru.rs fun P hP => ?_
  simp -implicitDefEqProofs (disch := first | decide | omega) [pv6.rd 0 _ rfl, g1]
  refine Rg.ret (hP _ _ ?_)
  clear hP P g1
  have ec : (a.map us).take (min a.length n * 1) = a.map us := List.take_of_length_le (by simp; omega)
  rw [ec] at g2
  have kp7 := g2.kp
  have f7 := kp7.fr f6 (fun id h => by cases h; omega) hw
  have dv7 := dv6.cpd g2 (by simp; omega)
  have ed : (List.replicate n (us 0)).take 0 ++ a.map us ++ (List.replicate n (us 0)).drop (0 + (a.map us).length) = a.map us ++ List.replicate (n - a.length) (us 0) := by simp
  rw [ed] at dv7
  have b37 := b36.kp kp7 (ne_some (by omega))
  have pv7 := pv6.kp kp7 (ne_some (by omega))
  have pk7 := pk.kp kp7 (ne_some (by omega))
  have dk7 := dk.kp kp7 (ne_some (by omega))
  have hn7 := g2.next
  clear b36 pv6 pk dk dv6 ha6 o6 ed ec g2 kp7 f6
  have hb7 := Sat.fr hb f7
  have o7 := dv7.own
  rw [show (a.map us ++ List.replicate (n - a.length) (us 0)).length = n by simp; omega] at o7
  have hcopy : ∃ s8, (∀ (cl : CallK) (ρ : Ev) (K : V → St → R), h_op3_copy 1 (.c (.sc (if a.length = n then .slice jv 0 0 (some 0) 1 else .slice jv a.length (n - a.length) (some (n - a.length)) 1))) (.c (.sc yb)) cl ρ s7 K = K (iv (min b.length (n - a.length) : Nat)) s8) ∧ Cpd s7 s8 jv a.length (b.map us) := by
    have ec : ∀ m, b.length ≤ m → (b.map us).take (min b.length m * 1) = b.map us := fun m hm => List.take_of_length_le (by simp; omega)
    by_cases he : a.length = n
    · have hb0 : b = [] := List.eq_nil_of_length_eq_zero (by omega)
      obtain ⟨s8, g1, g2⟩ := copy_any (o := some 0) (off := 0) (c := 0) f7.wf hb7 o7 (by omega)
      refine ⟨s8, fun cl ρ K => ?_, ?_⟩
      · rw [if_pos he, g1, he, Nat.sub_self]
      · rw [ec 0 (by omega)] at g2
        refine ⟨g2.kp, g2.next, g2.own, fun id' i => ?_⟩
        rw [g2.rd, hb0]
        rw [if_neg (by first | (simp; done) | (simp; omega)), if_neg (by first | (simp; done) | (simp; omega))]
    · obtain ⟨s8, g1, g2⟩ := copy_any (o := some (n - a.length)) (off := a.length) (c := n - a.length) f7.wf hb7 o7 (by omega)
      refine ⟨s8, fun cl ρ K => ?_, ?_⟩
      · rw [if_neg he, g1]
      · rw [ec _ (by omega)] at g2; exact g2
  obtain ⟨s8, g1, g2⟩ := hcopy
  refine Ru.rs fun P hP => ?_
  have hcut : ∀ (cl : CallK) (ρ : Ev) (K : V → St → R), h_op3_sliceS 1 (.c (.sc (.slice jv 0 n (some n) 1))) (some (.c (iv p.pub))) none none cl ρ s7 K = K (.sc (if a.length = n then .slice jv 0 0 (some 0) 1 else .slice jv a.length (n - a.length) (some (n - a.length)) 1)) s7 := fun cl ρ K => by
    rw [cut_lo cl ρ K c3 (by omega) (Nat.le_refl _), show p.pub.toNat = a.length by omega, Nat.zero_add, Nat.mul_one]
  simp -implicitDefEqProofs (disch := first | decide | omega) only [updE_cons, updE_nil, upd_at, upd_off, ld_eq, fad_eq, pv7.rd 0 _ rfl, b37.rd 2 _ rfl, Option.elim_some, n1_eq, n2_eq, Nat.zero_add, Nat.add_zero, hcut, g1]
  refine Rg.ret (hP _ _ ?_)
  clear hP P g1 hcut
  have kp8 := g2.kp
  have f8 := kp8.fr f7 (fun id h => by cases h; omega) hw
  have dv8 := dv7.cpd g2 (by simp; omega)
  have ed : (a.map us ++ List.replicate (n - a.length) (us 0)).take a.length ++ b.map us ++ (a.map us ++ List.replicate (n - a.length) (us 0)).drop (a.length + (b.map us).length) = (v0L n a b).map us := by
    rw [List.take_left' (by simp), List.length_map, ← List.drop_drop, List.drop_left' (by simp), List.drop_replicate]
    simp [v0L]
  rw [ed] at dv8
  have b38 := b37.kp kp8 (ne_some (by omega))
  have pv8 := pv7.kp kp8 (ne_some (by omega))
  have pk8 := pk7.kp kp8 (ne_some (by omega))
  have dk8 := dk7.kp kp8 (ne_some (by omega))
  have hn8 := g2.next
  clear b37 pv7 pk7 dk7 dv7 hb7 o7 ed g2 kp8 f7
  have hkr : List.replicate n (S.bool false) = (knL n 0).map S.bool := by rw [knL_zero, List.map_replicate]
  rw [hkr] at dk8
  clear hkr
  rw [hn7, hn6] at hn8
  clear hn7 hn6 s7 s6
  generalize hbv : jv + 1 = bv at *
  have hik : jv + 2 = ik := by omega
  generalize hbk : ik + 1 = bk at *
  refine Ru.seq (Ru.rs fun P hP => ?_)
  simp -implicitDefEqProofs (disch := first | decide | omega) [b38.rd 2 _ rfl, b38.rd 3 _ rfl]
  refine Rg.ret (hP _ _ ?_)
  clear hP P
  refine Ru.at (fun ρ => ρ q3 = .sc (.ptr st.next 0) ∧ ρ q9 = .sc (.ptr bv 0) ∧ ρ q10 = .sc (.ptr bk 0) ∧ ρ q69 = iv (a.length + b.length : Nat) ∧ ρ q70 = iv 0) ⟨rfl, rfl, rfl, by rw [show ((a.length + b.length : Nat) : Int) = p.pub + p.sec by omega]; rfl, rfl⟩ fun ρ0 hE => ?_
  obtain ⟨e3, e9, e10, e69, e70⟩ := hE
  refine Ru.block (Ru.lp [q3, q9, q10, q69] (fun j : Nat => a.length + b.length - j) (fun j ρ s => j ≤ a.length + b.length ∧ ρ q70 = iv j ∧ Fr st s ∧ Bx s st.next (gC p) ∧ s.next = ik + 2 ∧ KS s bk bv ik jv n (knL n j, v0L n a b))
    ⟨0, Nat.zero_le _, e70, f8, b38, by omega, ⟨knL_len _ _, v0L_len hle, pk8, pv8, dk8, dv8, by omega, by omega, by omega, by omega⟩⟩ fun j ρ s hk hI => ?_)
  clear e70 f8 b38 pk8 pv8 dk8 dv8 hn8 f5 f4 f1
  obtain ⟨hj, e70, f8, b3, hns, hS⟩ := hI
  refine Ru.rs fun P hP => ?_
  simp -implicitDefEqProofs (disch := first | decide | omega) [hk.e, e69, e70]
  refine Rg.ret (hP _ _ ?_)
  clear hP P
  refine Ru.seq (Ru.cond rfl (fun h => Ru.skip ?_) fun h => Ru.exit ?_)
  · simp at h
    simp only [Then, Out]
    have hl := hS.dk
    refine Ru.seq (Ru.block (Ru.rs fun P hP => ?_))
    simp -implicitDefEqProofs (disch := first | decide | omega) [e70]
    refine Rg.ret (hP _ _ ?_)
    clear hP P
    refine Ru.r1 fun P hP => ?_
    simp -implicitDefEqProofs (disch := first | decide | omega) [hk.e, e10, hS.pk.rd 0 _ rfl, hS.dk.sto (i := j) (by simp [knL_len]; omega)]
    refine Rg.ret (hP _ _ ?_)
    clear hP P
    have kw := hS.dk.kpw f8.wf (i := j) [.bool true]
    have dk' := hS.dk.set (i := j) (by simp [knL_len]; omega) (.bool true)
    have o1 := hS.o1
    have o2 := hS.o2
    have o3 := hS.o3
    have o4 := hS.o4
    have ek : ((knL n j).map S.bool).set j (.bool true) = (knL n (j + 1)).map S.bool := by rw [← knL_set n j (by omega), List.map_set]
    rw [ek] at dk'
    simp only [Then, Out]
    refine Ru.r1 fun P hP => ?_
    simp -implicitDefEqProofs (disch := first | decide | omega) [e70]
    exact Rg.ret (hP _ _ ⟨by repeat first | exact hk | refine Keep.up (by rfl) ?_, j + 1, by omega, by omega, rfl, kw.fr f8 (fun id h => by cases h; omega) hw, b3.kp kw (ne_some (by omega)), by rw [wr_next]; exact hns, ⟨knL_len _ _, hS.lv, hS.pk.kp kw (ne_some (by omega)), hS.pv.kp kw (ne_some (by omega)), dk', hS.dv.kp kw (ne_some (by omega)), o1, o2, o3, o4⟩⟩)
  simp at h
  obtain rfl : j = a.length + b.length := by omega
  simp only [Then, Out, if_true]
  have hS : KS s bk bv ik jv n (kv0 p a b) := by unfold kv0; rw [hnN, hps]; exact hS
  clear hj h e69 e70
  have hx0 := c1
  have e3' : ρ q3 = .sc (.ptr st.next 0) := by rw [hk.e q3 rfl, e3]
  have e9' : ρ q9 = .sc (.ptr bv 0) := by rw [hk.e q9 rfl, e9]
  have e10' : ρ q10 = .sc (.ptr bk 0) := by rw [hk.e q10 rfl, e10]
  clear hk e3 e9 e10 ρ0
  have hmk : ∀ (a b : S) (cl : CallK) (r : Ev) (K : V → St → R), h_op4_makeFunc 37 [.c (.sc a), .c (.sc b)] cl r s K = K (.sc (capsOf 37 [a, b])) s := fun a b cl r K => rfl
  refine Ru.rs fun P hP => ?_
  simp -implicitDefEqProofs (disch := first | decide | omega) [e9', e10', hmk]
  refine Rg.ret (hP _ _ ?_)
  clear hP P hmk
  refine Ru.seq (Ru.rs fun P hP => ?_)
  have hpr := Sat.fr hp f8
  simp -implicitDefEqProofs (disch := first | decide | omega) [e3', b3.rd 4 _ rfl, lnS_sat hpr]
  refine Rg.ret (hP _ _ ?_)
  clear hP P hpr
  refine Ru.at (fun ρ => ρ q3 = .sc (.ptr st.next 0) ∧ ρ q9 = .sc (.ptr bv 0) ∧ ρ q12 = .sc (capsOf 37 [.ptr bk 0, .ptr bv 0]) ∧ ρ q10 = .sc (.ptr bk 0) ∧ ρ q79 = .sc p.sl ∧ ρ q80 = iv p.rows.length ∧ ρ q81 = iv 0) ⟨by simp (disch := first | decide | omega) [e3'], by simp (disch := first | decide | omega) [e9'], rfl, by simp (disch := first | decide | omega) [e10'], rfl, rfl, rfl⟩ fun ρ0 hE => ?_
  clear e3' e9' e10' ρ
  obtain ⟨e3, e9, e12, e10, e79, e80, e81⟩ := hE
  have hcv : ∀ (s : St) (v w : V) (c : CallK) (r : Ev) (K : V → St → R), h_op4_callV (.c (.sc (capsOf 37 [.ptr bk 0, .ptr bv 0]))) [.c v, .c w] c r s K = c 37 [v, w, .sc (.ptr bk 0), .sc (.ptr bv 0)] s K := fun s v w c r K => callV_cap2 37 rfl [.ptr bk 0, .ptr bv 0] v w c r K
  have o1 := hS.o1
  have o2 := hS.o2
  have o3 := hS.o3
  have o4 := hS.o4
  have hfin : ∀ (ρ : Ev) (s : St), ρ q3 = .sc (.ptr st.next 0) → ρ q9 = .sc (.ptr bv 0) → Fr st s → Bx s st.next (gC p) → KS s bk bv ik jv n (runV p a b) → Ru (cF F) (.seq (.reg [q17] fun c r s K => K [tt] s)
 (.seq (.seq (.reg [q146, q147] fun c r s K => fad n4 (r q3) fun v0 => ld s v0 fun v1 => lnS v1 fun v2 => K [v2, I0] s)
 (.block n7 (.loop (.seq (.reg [q148] fun c r s K => binK .lss (r q147) (r q146) fun v0 => K [v0] s)
 (.seq (.cond (.t q148) .skip
 (.exit n7))
 (.seq (.block n8 (.seq (.reg [q18] fun c r s K => K [(r q147)] s)
 (.reg [q17] fun c r s K => jt (r q17) (lN s n5 (r q3)) s fun v0 s => jt (r q17) (ld s (r q9)) s fun v1 s => mt (r q17) (r q18) s fun v2 s => jn true (r q17) (fun j => c n42 [v0, v1, v2] s j) s fun v3 s => pck (r q17) v3 ff fun v4 => K [v4] s)))
 (.reg [q147] fun c r s K => binK .add (r q147) I1 fun v0 => K [v0] s)))))))
 (.seq (.reg [q6, q7, q8] fun c r s K => ld s (r q9) fun v0 => K [v0, (r q17), I0] s)
 .ret))) ρ s Q := by
    clear hcv e3 e9 e12 e10 e79 e80 e81 b3 hS f8
    intro ρ s e3 e9 f b3 hS
    have hvals := hS.vals
    have hlv : ((runV p a b).2.length : Int) = p.vars := by have := hS.lv; omega
    refine Ru.rs fun P hP => Rg.ret (hP _ _ ?_)
    clear hP P
    refine Ru.seq (Ru.rs fun P hP => ?_)
    simp -implicitDefEqProofs (disch := first | decide | omega) [e3, b3.rd 4 _ rfl, lnS_sat (Sat.fr hp f)]
    refine Rg.ret (hP _ _ ?_)
    clear hP P
    refine Ru.at (fun ρ => ρ q3 = .sc (.ptr st.next 0) ∧ ρ q9 = .sc (.ptr bv 0) ∧ ρ q17 = bl true ∧ ρ q146 = iv p.rows.length ∧ ρ q147 = iv 0) ⟨by simp (disch := first | decide | omega) [e3], by simp (disch := first | decide | omega) [e9], rfl, rfl, rfl⟩ fun ρ0 hE => ?_
    clear e3 e9 ρ
    obtain ⟨e3, e9, e17, e146, e147⟩ := hE
    refine Ru.block (Ru.lp [q3, q9, q146] (fun i : Nat => p.rows.length - i) (fun i ρ s' => i ≤ p.rows.length ∧ ρ q147 = iv i ∧ Fr s s' ∧ ∃ e, ρ q17 = bl e ∧ (e = true ↔ ∀ k g, k < i → p.rows[k]? = some g → HoldR p.field.toNat p.rows k g (runV p a b).2))
      ⟨0, Nat.zero_le _, e147, Fr.refl f.wf, true, e17, by simp⟩ fun i ρ s' hk hI => ?_)
    clear e147 e17
    obtain ⟨hi, e147, k, e, e17, he⟩ := hI
    refine Ru.rs fun P hP => ?_
    simp -implicitDefEqProofs (disch := first | decide | omega) [hk.e, e146, e147]
    refine Rg.ret (hP _ _ ?_)
    clear hP P
    refine Ru.seq (Ru.cond rfl (fun h => Ru.skip ?_) fun h => Ru.exit ?_)
    rotate_left
    · simp at h
      obtain rfl : i = p.rows.length := by omega
      simp only [Then, Out, if_true]
      have hS' := hS.fr k
      refine Ru.rs fun P hP => ?_
      simp -implicitDefEqProofs (disch := first | decide | omega) [hk.e, e9, e17, hS'.pv.rd 0 _ rfl]
      refine Rg.ret (hP _ _ (Ru.ret (hQ _ _ (resP.three (a := .slice jv 0 n (some n) 1) (b := .bool e) (c := is 0) rfl rfl rfl ⟨f.trans k, _, e, rfl, hS'.vals, he.trans ⟨fun h i g hg => h i g (List.getElem?_eq_some_iff.1 hg).1 hg, fun h i g _ hg => h i g hg⟩⟩))))
    simp at h
    have hlt : i < p.rows.length := by omega
    obtain ⟨g, hgi, hfm, hnx⟩ := hV.rows i hlt
    simp only [Then, Out]
    refine Ru.seq (Ru.block (Ru.rs fun P hP => Rg.ret (hP _ _ ?_)))
    clear hP P
    have fin : ∀ (ρ' : Ev) (t : St) (e' : Bool), Keep [q3, q9, q146] ρ' ρ0 → ρ' q147 = iv i → Fr s t → ρ' q17 = bl e' → (e' = true ↔ (e = true ∧ HoldR p.field.toNat p.rows i g (runV p a b).2)) → ∀ Q' : X → Ev → St → Prop, (∀ ρ'' t', (Keep [q3, q9, q146] ρ'' ρ0 ∧ ∃ a', p.rows.length - a' < p.rows.length - i ∧ a' ≤ p.rows.length ∧ ρ'' q147 = iv a' ∧ Fr s t' ∧ ∃ e, ρ'' q17 = bl e ∧ (e = true ↔ ∀ k g, k < a' → p.rows[k]? = some g → HoldR p.field.toNat p.rows k g (runV p a b).2)) → Q' .normal ρ'' t') →
        Ru (cF F) (.reg [q147] fun c r s K => binK .add (r q147) I1 fun v0 => K [v0] s) ρ' t Q' := by
      intro ρ' t e' hk e147 k e17 he' Q' hQ'
      refine Ru.r1 fun P hP => ?_
      simp -implicitDefEqProofs (disch := first | decide | omega) [e147]
      refine Rg.ret (hP _ _ (hQ' _ _ ⟨by repeat first | exact hk | refine Keep.up (by rfl) ?_, i + 1, by omega, by omega, rfl, k, e', by simp (disch := first | decide | omega) [e17], ?_⟩))
      rw [he', he]
      constructor
      · rintro ⟨h1, h2⟩ k g2 hk hg2
        rcases (show k < i ∨ k = i by omega) with h3 | rfl
        · exact h1 k g2 h3 hg2
        · rw [hgi] at hg2; cases hg2; exact h2
      · intro h1
        exact ⟨fun k g2 hk hg2 => h1 k g2 (by omega) hg2, h1 i g (by omega) hgi⟩
    refine Ru.r1 fun P hP => ?_
    cases e with
    | false =>
      simp -implicitDefEqProofs (disch := first | decide | omega) [e17]
      refine Rg.ret (hP _ _ ?_)
      simp only [Then, Out]
      refine fin _ _ false ?_ ?_ k rfl (by simp) _ fun ρ'' t' h => h
      · repeat first | exact hk | refine Keep.up (by rfl) ?_
      · simp (disch := first | decide | omega) [e147]
    | true =>
      have hS' := hS.fr k
      have b3' := b3.fr k
      simp -implicitDefEqProofs (disch := first | decide | omega) [hk.e, e3, e9, e17, e147, b3'.N (n := 5) rfl, hS'.pv.rd 0 _ rfl]
      refine Rg.call (holds_ok (hg.fr (f.trans k)) p (Sat.fr hp (f.trans k)) c9 c1 c2 hS'.vals hlv ⟨g, hgi, hfm, hnx⟩ hgi) fun v t hv => ?_
      obtain ⟨kt, b', rfl, hb'⟩ := hv
      refine Rg.ret (hP _ _ ?_)
      simp only [Then, Out]
      refine fin _ _ b' ?_ ?_ (k.trans kt) rfl (by rw [hb']; simp) _ fun ρ'' t' h => h
      · repeat first | exact hk | refine Keep.up (by rfl) ?_
      · simp (disch := first | decide | omega) [e147]
  refine Ru.block (Ru.lp [q3, q9, q10, q12, q79, q80] (fun i : Nat => p.rows.length - i) (fun i ρ s => i ≤ p.rows.length ∧ ρ q81 = iv i ∧ Fr st s ∧ Bx s st.next (gC p) ∧ KS s bk bv ik jv n (runTo p.field.toNat p.rows (kv0 p a b) i))
    ⟨0, Nat.zero_le _, e81, f8, b3, hS⟩ fun i ρ s hk hI => ?_)
  clear e81 f8 b3 hS hns
  obtain ⟨hi, e81, f8, b3, hS⟩ := hI
  refine Ru.rs fun P hP => ?_
  simp -implicitDefEqProofs (disch := first | decide | omega) [hk.e, e80, e81]
  refine Rg.ret (hP _ _ ?_)
  clear hP P
  refine Ru.seq (Ru.cond rfl (fun h => Ru.skip ?_) fun h => Ru.exit ?_)
  rotate_left
  · simp at h
    obtain rfl : i = p.rows.length := by omega
    simp only [Then, Out, if_true]
    refine hfin _ _ ?_ ?_ f8 b3 hS
    · simp (disch := first | decide | omega) [hk.e, e3]
    · simp (disch := first | decide | omega) [hk.e, e9]
  simp at h
  clear hfin
  simp only [Then, Out]
  have hlt : i < p.rows.length := by omega
  obtain ⟨g, hgi, hfm, hnx⟩ := hV.rows i hlt
  have hstep : ∀ kv, stepV p.field.toNat p.rows i kv = if g.kind = 3 then (match p.rows[i + 1]? with | some g' => rndTo p.field.toNat g g' kv 4 | none => kv) else if g.q 3 ≠ 0 then setV kv (g.w 2).toNat (fneg (pC p.field.toNat) (fmul (pC p.field.toNat) (totV (pC p.field.toNat) g kv.2) (invV (pC p.field.toNat) (g.q 3)))) else kv := fun kv => by unfold stepV; rw [hgi]
  generalize hkv : runTo p.field.toNat p.rows (kv0 p a b) i = kv at *
  have hrun : runTo p.field.toNat p.rows (kv0 p a b) (i + 1) = stepV p.field.toNat p.rows i kv := by show stepV _ _ _ _ = _; rw [hkv]
  have hin : InR g kv.2.length := formed_inR hfm (by have := hS.lv; omega)
  obtain ⟨rid, ro, hix, hgc, _⟩ := elt (f := gateC) (z := 11) (fun _ => rfl) (Sat.fr hp f8) hgi
  have hgN : rdN s rid ro 11 = some (gateC g) := rdN_get rfl hgc
  have hst : ∀ K : St → R, Ev.sto (new s [bs 0, is 0, is 0, is 0, is 0, us 0, us 0, us 0, us 0, us 0, is 0]) 11 (V.sc (S.ptr s.next 0)) (.agg (gateC g)) K = K (wr (new s [bs 0, is 0, is 0, is 0, is 0, us 0, us 0, us 0, us 0, us 0, is 0]) s.next 0 (gateC g)) := fun K => sto_new K rfl rfl
  refine Ru.seq (Ru.block (Ru.rs fun P hP => ?_))
  simp -implicitDefEqProofs (disch := first | decide | omega) [hk.e, e79, e81, hix, hgN, hst]
  refine Rg.ret (hP _ _ ?_)
  clear hP P hst hix hgc hgN
  have kf := fr_mk f8.wf [bs 0, is 0, is 0, is 0, is 0, us 0, us 0, us 0, us 0, us 0, is 0] (gateC g)
  have b14 : Bx (wr (new s [bs 0, is 0, is 0, is 0, is 0, us 0, us 0, us 0, us 0, us 0, is 0]) s.next 0 (gateC g)) s.next (gateC g) := Bx.mk' rfl
  have b3' := b3.fr kf
  have hS' := hS.fr kf
  have f9 := f8.trans kf
  have h14 : bk < s.next := hS.pk.lt
  clear b3 hS f8 kf
  generalize wr (new s [bs 0, is 0, is 0, is 0, is 0, us 0, us 0, us 0, us 0, us 0, is 0]) s.next 0 (gateC g) = s9 at *
  generalize s.next = i14 at *
  have last : ∀ (ρ' : Ev) (t : St), Keep [q3, q9, q10, q12, q79, q80] ρ' ρ0 → ρ' q81 = iv i → Fr st t → Bx t st.next (gC p) → KS t bk bv ik jv n (stepV p.field.toNat p.rows i kv) →
      Ru (cF F) (.reg [q81] fun c r s K => binK .add (r q81) I1 fun v0 => K [v0] s) ρ' t (Then (fun ρ'' s => Keep [q3, q9, q10, q12, q79, q80] ρ'' ρ0 ∧ ∃ a', p.rows.length - a' < p.rows.length - i ∧ a' ≤ p.rows.length ∧ ρ'' q81 = iv a' ∧ Fr st s ∧ Bx s st.next (gC p) ∧ KS s bk bv ik jv n (runTo p.field.toNat p.rows (kv0 p a b) a')) (Out n2 (Then (fun ρ s => Ru (cF F) (.seq (.reg [q17] fun c r s K => K [tt] s)
 (.seq (.seq (.reg [q146, q147] fun c r s K => fad n4 (r q3) fun v0 => ld s v0 fun v1 => lnS v1 fun v2 => K [v2, I0] s)
 (.block n7 (.loop (.seq (.reg [q148] fun c r s K => binK .lss (r q147) (r q146) fun v0 => K [v0] s)
 (.seq (.cond (.t q148) .skip
 (.exit n7))
 (.seq (.block n8 (.seq (.reg [q18] fun c r s K => K [(r q147)] s)
 (.reg [q17] fun c r s K => jt (r q17) (lN s n5 (r q3)) s fun v0 s => jt (r q17) (ld s (r q9)) s fun v1 s => mt (r q17) (r q18) s fun v2 s => jn true (r q17) (fun j => c n42 [v0, v1, v2] s j) s fun v3 s => pck (r q17) v3 ff fun v4 => K [v4] s)))
 (.reg [q147] fun c r s K => binK .add (r q147) I1 fun v0 => K [v0] s)))))))
 (.seq (.reg [q6, q7, q8] fun c r s K => ld s (r q9) fun v0 => K [v0, (r q17), I0] s)
 .ret))) ρ s Q) Q))) := by
    intro ρ' t hk e81 f b3 hS
    refine Ru.r1 fun P hP => ?_
    simp -implicitDefEqProofs (disch := first | decide | omega) [e81]
    exact Rg.ret (hP _ _ ⟨by repeat first | exact hk | refine Keep.up (by rfl) ?_, i + 1, by omega, by omega, rfl, f, b3, by rw [hrun]; exact hS⟩)
  have eK : Keep [q3, q9, q10, q12, q79, q80] (updE [q14, q13] [.sc (.ptr i14 0), iv i] (updE [q82] [bl (ltI i p.rows.length)] ρ)) ρ0 := by repeat first | exact hk | refine Keep.up (by rfl) ?_
  refine Ru.at (fun ρ' => Keep [q3, q9, q10, q12, q79, q80] ρ' ρ0 ∧ ρ' q81 = iv i ∧ ρ' q13 = iv i ∧ ρ' q14 = .sc (.ptr i14 0)) ⟨eK, by simp (disch := first | decide | omega) [e81], rfl, rfl⟩ fun ρ1 hE => ?_
  clear eK hk e81 ρ
  obtain ⟨hk, e81, e13, e14⟩ := hE
  have hvals := hS'.vals
  refine Ru.block (Ru.rs fun P hP => ?_)
  simp -implicitDefEqProofs (disch := first | decide | omega) [e14, b14.rd 0 _ rfl]
  refine Rg.ret (hP _ _ ?_)
  clear hP P
  refine Ru.cond rfl (fun h3 => ?_) fun h3 => ?_
  · simp at h3
    obtain ⟨g', hg', hw4⟩ := hnx h3
    have hwr : ∀ j, j < 4 → 0 ≤ g.w j ∧ g.w j < kv.2.length := fun j hj => hin j hj (readsD3 h3 j)
    obtain ⟨_, r0, r8, _⟩ := hfm
    refine Ru.rs fun P hP => ?_
    simp -implicitDefEqProofs (disch := first | decide | omega) [hk.e, e3, e9, e14, b3'.rd 0 _ rfl, b14.N (n := 11) rfl, hS'.pv.rd 0 _ rfl]
    refine Rg.call (turned_ok (hg.fr f9) c1 c2 g r0 r8 hvals hwr) fun v s10 hv => ?_
    obtain ⟨k10, rfl⟩ := hv
    refine Rg.ret (hP _ _ ?_)
    clear hP P
    have eK : Keep [q3, q9, q10, q12, q79, q80] (updE [q94, q95] [.agg (fourC (rndV p.field.toNat g.round fun j => vl kv.2 (g.w j))), iv 0] (updE [q86] [bl (eqN g.kind 3)] ρ1)) ρ0 := by repeat first | exact hk | refine Keep.up (by rfl) ?_
    refine Ru.at (fun ρ' => Keep [q3, q9, q10, q12, q79, q80] ρ' ρ0 ∧ ρ' q81 = iv i ∧ ρ' q13 = iv i ∧ ρ' q94 = .agg (fourC (rndV p.field.toNat g.round fun j => vl kv.2 (g.w j))) ∧ ρ' q95 = iv 0) ⟨eK, by simp (disch := first | decide | omega) [e81], by simp (disch := first | decide | omega) [e13], rfl, rfl⟩ fun ρ2 hE => ?_
    clear eK hk e81 e13 e14 ρ1
    obtain ⟨hk, e81, e13, e94, e95⟩ := hE
    refine Ru.block (Ru.lp [q3, q9, q10, q12, q79, q80, q81, q13, q94] (fun j : Nat => 4 - j) (fun j ρ s => j ≤ 4 ∧ ρ q95 = iv j ∧ Fr st s ∧ Bx s st.next (gC p) ∧ KS s bk bv ik jv n (rndTo p.field.toNat g g' kv j))
      ⟨0, Nat.zero_le _, e95, f9.trans k10, b3'.fr k10, hS'.fr k10⟩ fun j ρ s hk2 hI => ?_)
    clear e95
    obtain ⟨hj4, e95, f, b3, hS⟩ := hI
    refine Ru.rs fun P hP => ?_
    simp -implicitDefEqProofs (disch := first | decide | omega) [hk2.e, e95]
    refine Rg.ret (hP _ _ ?_)
    clear hP P
    refine Ru.seq (Ru.cond rfl (fun h => Ru.skip ?_) fun h => Ru.exit ?_)
    rotate_left
    · simp at h
      obtain rfl : j = 4 := by omega
      simp only [Then, Out, if_true]
      refine last _ _ ?_ ?_ f b3 ?_
      · have hkk : Keep [q3, q9, q10, q12, q79, q80] ρ ρ0 := .via (by rfl) hk2 hk
        repeat first | exact hkk | refine Keep.up (by rfl) ?_
      · simp (disch := first | decide | omega) [hk2.e, e81]
      · rw [hstep, if_pos h3, hg']; exact hS
    simp at h
    simp only [Then, Out]
    have hj : j < 4 := by omega
    have hwj := hw4 j hj
    have hix : ∀ (c : CallK) (r : Ev) (K : V → St → R), h_op2_idxV 4 1 false (.c (.agg (fourC (rndV p.field.toNat g.round fun j => vl kv.2 (g.w j))))) (.c (iv j)) c r s K = K (uv (rndV p.field.toNat g.round (fun j => vl kv.2 (g.w j)) j)) s := fun c r K => idxV_sc c r K hj (fourC_get _ j hj)
    refine Ru.seq (Ru.block (Ru.rs fun P hP => ?_))
    simp -implicitDefEqProofs (disch := first | decide | omega) [hk2.e, e94, e95, hix]
    refine Rg.ret (hP _ _ ?_)
    clear hP P
    obtain ⟨rid, ro, hx, hgc, _⟩ := elt (f := gateC) (z := 11) (fun _ => rfl) (Sat.fr hp f) hg'
    have hx' : ∀ K, ixs 11 (V.sc p.sl) (iv ((i : Int) + 1)) K = K (.sc (.ptr rid ro)) := fun K => by
      have := hx K
      rwa [show ((i + 1 : Nat) : Int) = (i : Int) + 1 by omega] at this
    have hgw : rd s rid (ro + 1 + j) = some (is (g'.w j)) := by
      rw [Nat.add_assoc]
      refine hgc (1 + j) _ ?_
      rcases (show j = 0 ∨ j = 1 ∨ j = 2 ∨ j = 3 by omega) with rfl | rfl | rfl | rfl <;> rfl
    refine Ru.r1 fun P hP => ?_
    simp -implicitDefEqProofs (disch := first | decide | omega) [hk2.e, hk.e, e3, e12, e13, b3.rd 4 _ rfl, hx', hgw, hcv]
    refine Rg.call (set_ok f.wf hS (g'.w j) hwj.1 (by omega) _) fun v t hv => ?_
    obtain ⟨kt, hSt⟩ := hv
    refine Rg.ret (hP _ _ ?_)
    clear hP P
    have hkw := hS.kw
    simp only [Then, Out]
    refine Ru.r1 fun P hP => ?_
    simp -implicitDefEqProofs (disch := first | decide | omega) [e95]
    exact Rg.ret (hP _ _ ⟨by repeat first | exact hk2 | refine Keep.up (by rfl) ?_, j + 1, by omega, by omega, rfl, kt.fr f (fun id h => by have := hkw id h; omega) hw, b3.kw kt (fun h => by have := hkw _ h; omega), hSt⟩)
  simp at h3
  by_cases hq : g.q 3 = 0
  · refine Ru.rs fun P hP => ?_
    simp -implicitDefEqProofs (disch := first | decide | omega) [e14, b14.rd 8 _ rfl, hq]
    refine Rg.ret (hP _ _ (Ru.cond rfl (fun h => by cases h) fun _ => Ru.skip ?_))
    clear hP P
    simp only [Then, Out]
    refine last _ _ ?_ ?_ f9 b3' ?_
    · repeat first | exact hk | refine Keep.up (by rfl) ?_
    · simp (disch := first | decide | omega) [e81]
    · rw [hstep, if_neg h3, if_neg (by simp [hq])]; exact hS'
  have hk1 : g.kind = 1 := by
    obtain ⟨_, _, _, _, _, h6, _⟩ := hfm
    rcases h6 with h | h
    · exact h
    · exact absurd (h 3 (by decide)) hq
  have hw2 : 0 ≤ g.w 2 ∧ g.w 2 < kv.2.length := hin 2 (by decide) (by unfold readsD; simp [hk1, hq])
  obtain ⟨w, hw'⟩ := Int.eq_ofNat_of_zero_le hw2.1
  have hwn : w < n := by have := hS'.lv; omega
  have hwl : w < kv.1.length := by have := hS'.lk; omega
  have hgk := List.getElem?_eq_getElem hwl
  generalize hkb : kv.1[w] = kb at hgk
  have hrk : rd s9 ik w = some (.bool kb) := hS'.dk.rd w _ (by rw [List.getElem?_map, hgk]; rfl)
  have hgd : kv.1.getD w true = kb := by rw [List.getD_eq_getElem?_getD, hgk]; rfl
  refine Ru.rs fun P hP => ?_
  simp -implicitDefEqProofs (disch := first | decide | omega) [e14, b14.rd 8 _ rfl, hq, b14.rd 3 _ rfl, hk.e, e10, hS'.pk.rd 0 _ rfl, hw', hrk]
  refine Rg.ret (hP _ _ ?_)
  clear hP P
  refine Ru.cond rfl (fun h => ?_) fun h => Ru.skip ?_
  rotate_left
  · simp at h
    simp only [Then, Out]
    refine last _ _ ?_ ?_ f9 b3' ?_
    · repeat first | exact hk | refine Keep.up (by rfl) ?_
    · simp (disch := first | decide | omega) [e81]
    · rw [hstep, if_neg h3, if_pos hq, hw']
      unfold setV
      rw [Int.toNat_natCast, hgd, if_pos h]; exact hS'
  have l14 := b14.lt
  have l3 := b3'.lt
  have l9 := hS'.pv.lt
  refine Ru.d1 fun P hP => ?_
  simp -implicitDefEqProofs (disch := first | decide | omega) [e14, b14.rd 3 _ rfl, b14.N (n := 11) rfl, hk.e, e3, e9, b3'.rd 0 _ rfl, hS'.pv.rd 0 _ rfl, hw', hcv]
  refine Rg.dc (fun v => v = uv (totV (pC p.field.toNat) g kv.2)) f9.wf (by decide) (by decide) ((total_ok ((hg.fr f9).glo.low _) c1 c2 g (hvals.low _) hin).imp fun v s h => h) fun v s10 k10 hv => ?_
  subst hv
  have f10 := f9.trans k10
  have b14b := b14.fr k10
  simp -implicitDefEqProofs (disch := first | decide | omega) [dL_low, hk.e, e14, b14b.rd 8 _ rfl]
  refine Rg.dc (fun v => v = uv (fmul (pC p.field.toNat) (totV (pC p.field.toNat) g kv.2) (invV (pC p.field.toNat) (g.q 3)))) f10.wf (by decide) (by decide) ((div_ok ((hg.fr f10).glo.low _) c1 c2 _ _).imp fun v s h => h) fun v s11 k11 hv => ?_
  subst hv
  have f11 := f10.trans k11
  refine Rg.dc (fun v => v = uv (fneg (pC p.field.toNat) (fmul (pC p.field.toNat) (totV (pC p.field.toNat) g kv.2) (invV (pC p.field.toNat) (g.q 3))))) f11.wf (by decide) (by decide) ((neg_ok ((hg.fr f11).glo.low _) c1 c2 _).imp fun v s h => h) fun v s12 k12 hv => ?_
  subst hv
  have f12 := f11.trans k12
  have hS12 := hS'.fr ((k10.trans k11).trans k12)
  have b312 := b3'.fr ((k10.trans k11).trans k12)
  simp -implicitDefEqProofs (disch := first | decide | omega) [hk.e, e12, hcv]
  refine Rg.dcw (W := Wkv ik jv) (fun t => KS t bk bv ik jv n (setV kv w (fneg (pC p.field.toNat) (fmul (pC p.field.toNat) (totV (pC p.field.toNat) g kv.2) (invV (pC p.field.toNat) (g.q 3)))))) f12.wf (by decide) (by decide) (by decide) (by decide) (fun h nx a b k => k.relow) ((set_ok (wf_setLow (h := f12.wf)) (hS12.low _) w (by omega) (by omega) _).imp fun v s h => by rw [Int.toNat_natCast] at h; exact h) fun t kt hSt => hP _ _ ?_
  clear hP P
  have hkw := hS12.kw
  simp only [Then, Out]
  refine last _ _ ?_ ?_ (kt.fr f12 (fun id h => by have := hkw id h; omega) hw) (b312.kw kt (fun h => by have := hkw _ h; omega)) ?_
  · repeat first | exact hk | refine Keep.up (by rfl) ?_
  · simp (disch := first | decide | omega) [e81]
  · rw [hstep, if_neg h3, if_pos hq, hw', Int.toNat_natCast]; exact hSt
end Go.Proofs.YticfndhcbjcklaaDoor.Ev
