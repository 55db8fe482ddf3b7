/- What the listed package variables hold, and the evaluator's runs, by the kernel; no conditions. -/
import Derived.Test.YticfndhcbjcklaaDoorMa
import Derived.Test.YticfndhcbjcklaaDoorEvF
import Derived.Test.YticfndhcbjcklaaDoorEvD
namespace Go.Proofs.YticfndhcbjcklaaDoor.Ev
set_option linter.unusedSimpArgs false
set_option linter.unusedVariables false
variable {st s t : St} {n i : Nat}
def pC (x : Nat) : Nat := if x = 0 then 97 else if x = 1 then 257 else if x = 2 then 12289 else 998244353
theorem pC_pos (x : Nat) : 0 < pC x := by unfold pC; (repeat' split) <;> omega
theorem pC_lt (x : Nat) : pC x < 998244354 := by unfold pC; (repeat' split) <;> omega
/-- the package variables of the field lie here -/
structure Glo (st : St) : Prop where
  wf : WfS st
  line : ∀ x, x < 4 → ∃ l, Lies st 0 x (pC x) l
theorem Glo.fr (h : Glo s) (k : Fr s t) : Glo t := ⟨k.wf, fun x hx => by obtain ⟨l, hl⟩ := h.line x hx; exact ⟨l, hl.fr k⟩⟩
theorem Glo.low (h : Glo s) (n : Nat) : Glo (setLow s n) := by
  refine ⟨by cases s; exact h.wf, fun x hx => ?_⟩
  obtain ⟨l, hl⟩ := h.line x hx
  refine ⟨l, by cases s; exact h.wf, hl.xlt, ?_, hl.pos, hl.lt⟩
  have := hl.line
  cases s; exact this
theorem P_ok (h : Glo st) {x : Int} (h0 : 0 ≤ x) (h4 : x < 4) : Ca (cF F) 54 [iv x] st (fun v s => Fr st s ∧ v = uv (pC x.toNat)) := by
  obtain ⟨l, hl⟩ := h.line x.toNat (by omega)
  have := fP (F := F) (v := 46) rfl rfl (o := 67) rfl rfl (p := 54) rfl rfl hl
  rw [show ((x.toNat : Nat) : Int) = x by omega] at this
  exact this.imp fun v s h => ⟨h.1.1, h.2⟩
theorem Sat.low {x : S} {n z : Nat} {cs : List S} (h : Sat s x n z cs) (k : Nat) : Sat (setLow s k) x n z cs := by cases s; exact h
theorem RepN.low {x : S} {l : List Nat} (h : RepN s x l) (k : Nat) : RepN (setLow s k) x l := Sat.low h k
/-- a row has the numbers of its kind -/
def Formed (P : Nat) (vars : Int) (g : GateD) : Prop :=
  g.kind ≤ 3 ∧ 0 ≤ g.round ∧ g.round < 8 ∧ (g.kind = 3 ∨ g.round = 0) ∧ (∀ j, j < 5 → g.q j < P) ∧ (g.kind = 1 ∨ ∀ j, j < 5 → g.q j = 0) ∧ ∀ j, j < 4 → -1 ≤ g.w j ∧ g.w j < vars ∧ (readsD g j = true → 0 ≤ g.w j)
theorem mem5 {f : Nat → Nat} {p : Nat → Prop} (h : ∀ y ∈ [f 0, f 1, f 2, f 3, f 4], p y) : ∀ j, j < 5 → p (f j) := fun j hj => by
  rcases (show j = 0 ∨ j = 1 ∨ j = 2 ∨ j = 3 ∨ j = 4 by omega) with rfl | rfl | rfl | rfl | rfl <;> exact h _ (by simp)
theorem in5 {f : Nat → Nat} {k : Nat} (h : k ∈ [f 0, f 1, f 2, f 3, f 4]) : ∃ j, j < 5 ∧ k = f j := by
  simp at h
  rcases h with h | h | h | h | h
  · exact ⟨0, by omega, h⟩
  · exact ⟨1, by omega, h⟩
  · exact ⟨2, by omega, h⟩
  · exact ⟨3, by omega, h⟩
  · exact ⟨4, by omega, h⟩
theorem formed_ok (hg : Glo st) (p : GatesD) (g : GateD) (h0 : 0 ≤ p.field) (h4 : p.field < 4) :
    Ca (cF F) 48 [.agg (gC p), .agg (gateC g)] st (fun v s => Fr st s ∧ ∃ b, v = bl b ∧ (b = true ↔ Formed (pC p.field.toNat) p.vars g)) := by
  refine Ca.of (hf := cf48) rfl rfl [q0, q1] [.tmp q4] rfl rfl rfl fun Q hQ => ?_
  have hw := hg.wf
  have f1 : Fr st (new st (gC p)) := (Fr.refl hw).new _
  have f2 : Fr st (new (new st (gC p)) (gateC g)) := f1.new _
  have hp : ∀ i, rd (new (new st (gC p)) (gateC g)) st.next i = (gC p)[i]? := fun i => by
    rw [rd_new, if_neg (by simp), rd_new, if_pos rfl]
  have hgt : ∀ i, rd (new (new st (gC p)) (gateC g)) (st.next + 1) i = (gateC g)[i]? := fun i => by
    rw [rd_new, if_pos (by simp)]
  refine Ru.rs fun P hP => ?_
  simp (disch := first | decide | omega)
  refine Rg.ret (hP _ _ ?_)
  clear hP P
  have hn2 : st.next + 2 ≤ (new (new st (gC p)) (gateC g)).next := by simp
  generalize new (new st (gC p)) (gateC g) = s2 at *
  have a0 : ∀ {t}, Fr s2 t → rd t st.next 0 = some (is p.field) := fun k => k.rd (hp 0)
  have a1 : ∀ {t}, Fr s2 t → rd t st.next 1 = some (is p.vars) := fun k => k.rd (hp 1)
  have m0 : ∀ {t}, Fr s2 t → rd t (st.next + 1) 0 = some (bs g.kind) := fun k => k.rd (hgt 0)
  have m10 : ∀ {t}, Fr s2 t → rd t (st.next + 1) 10 = some (is g.round) := fun k => k.rd (hgt 10)
  have m5 : rd s2 (st.next + 1) 5 = some (us (g.q 0)) := hgt 5
  have m6 : rd s2 (st.next + 1) 6 = some (us (g.q 1)) := hgt 6
  have m7 : rd s2 (st.next + 1) 7 = some (us (g.q 2)) := hgt 7
  have m8 : rd s2 (st.next + 1) 8 = some (us (g.q 3)) := hgt 8
  have m9 : rd s2 (st.next + 1) 9 = some (us (g.q 4)) := hgt 9
  have hfill : ∀ (a b c d e : Nat) tm K, fillK tm K [(0, 1, .c (uv a)), (1, 1, .c (uv b)), (2, 1, .c (uv c)), (3, 1, .c (uv d)), (4, 1, .c (uv e))] [us 0, us 0, us 0, us 0, us 0] = K [us a, us b, us c, us d, us e] := fun a b c d e tm K => by
    rw [fill_sc _ _ _ _ _ _ (by simp), fill_sc _ _ _ _ _ _ (by simp [setRange]), fill_sc _ _ _ _ _ _ (by simp [setRange]), fill_sc _ _ _ _ _ _ (by simp [setRange]), fill_sc _ _ _ _ _ _ (by simp [setRange]), fill_nil]; rfl
  refine Ru.rs fun P hP => ?_
  simp (disch := first | decide | omega) [m5, m6, m7, m8, m9, buildS_eq, hfill]
  refine Rg.ret (hP _ _ ?_)
  clear hP P
  have f3 : Fr s2 (new s2 [us (g.q 0), us (g.q 1), us (g.q 2), us (g.q 3), us (g.q 4)]) := (Fr.refl f2.wf).new _
  have hq : RepN (new s2 [us (g.q 0), us (g.q 1), us (g.q 2), us (g.q 3), us (g.q 4)]) (.slice s2.next 0 5 (some 5) 1) [g.q 0, g.q 1, g.q 2, g.q 3, g.q 4] := Sat.new rfl fun m h => by cases h; exact Nat.le_refl _
  generalize new s2 [us (g.q 0), us (g.q 1), us (g.q 2), us (g.q 3), us (g.q 4)] = s3 at *
  have f23 := f2.trans f3
  have hn3 := f3.next
  have no : ∀ (Q' : X → Ev → St → Prop) (ρ : Ev) (t : St), Q' .ret = Q .ret → Fr s3 t → ¬ Formed (pC p.field.toNat) p.vars g → Ru (cF F) (.seq (.reg [q4] fun c r s K => K [ff] s) .ret) ρ t Q' := fun Q' ρ t he k hn =>
    Ru.sreg (Rg.ret (Ru.ret (he ▸ hQ _ _ (.one rfl ⟨f23.trans k, false, rfl, by simp [hn]⟩))))
  have r3 := Fr.refl f3.wf
  refine Ru.seq (Ru.block (Ru.seq (Ru.rs fun P hP => ?_)))
  simp (disch := first | decide | omega) [m0 f3]
  refine Rg.ret (hP _ _ (Ru.cond rfl (fun h => Ru.skip (Ru.cond rfl (fun _ => no _ _ _ rfl r3 fun hh => by simp at h; have := hh.1; omega) fun h' => by rw [h] at h'; cases h')) fun h => Ru.rs fun P hP => ?_))
  simp (disch := first | decide | omega) [m10 f3]
  refine Rg.ret (hP _ _ (Ru.cond rfl (fun h => Ru.skip (Ru.cond rfl (fun _ => no _ _ _ rfl r3 fun hh => by simp at h; have := hh.2.1; omega) fun h' => by rw [h] at h'; cases h')) fun h2 => Ru.r1 fun P hP => ?_))
  simp (disch := first | decide | omega) [m10 f3]
  refine Rg.ret (hP _ _ (Ru.cond rfl (fun h3 => no _ _ _ rfl r3 fun hh => by simp at h3; have := hh.2.2.1; omega) fun h3 => Ru.seq (Ru.rs fun P hP => ?_)))
  simp at h h2 h3
  simp -implicitDefEqProofs +contextual (disch := first | decide | omega) [m0 f3, m10 f3]
  refine Rg.ret (hP _ _ ?_)
  refine (Ru.cond rfl (fun h4 => Ru.skip (Ru.cond rfl (fun _ => no _ _ _ rfl r3 fun hh => by simp at h4; have := hh.2.2.2.1; omega) fun h' => by rw [h4] at h'; cases h')) fun h5 => Ru.d1 fun P hP => ?_)
  have hq3 := hq.low s3.next
  simp (disch := first | decide | omega)
  refine Rg.dc (fun v => ∃ k : Nat, v = uv k ∧ k ∈ [g.q 0, g.q 1, g.q 2, g.q 3, g.q 4] ∧ ∀ y ∈ [g.q 0, g.q 1, g.q 2, g.q 3, g.q 4], y ≤ k) f3.wf (by decide) (by decide) ((maxU_ok (wf_setLow (h := f3.wf)) hq3 (by simp) (by simp)).imp fun v s h => ⟨by rw [h.1]; exact Fr.refl (wf_setLow (h := f3.wf)), h.2⟩) fun v s4 k4 hv => ?_
  obtain ⟨k, rfl, hk, hk'⟩ := hv
  have hn4 := k4.next
  simp (disch := first | decide | omega) [dL_low, a0 (f3.trans k4)]
  refine Rg.dc (fun v => v = uv (pC p.field.toNat)) k4.wf (by decide) (by decide) ((P_ok ((hg.fr (f23.trans k4)).low _) h0 h4).imp fun v s h => h) fun v s5 k5 hv => ?_
  subst hv
  have k35 := k4.trans k5
  have q5' := fun h => mem5 (f := g.q) (p := (· ≤ k)) h
  simp (disch := first | decide | omega)
  refine Rg.ret (hP _ _ ?_)
  clear hP P
  refine Ru.cond rfl (fun h6 => no _ _ _ rfl k35 fun hh => ?_) fun h6 => Ru.rs fun P hP => ?_
  · simp at h6
    obtain ⟨j, hj, rfl⟩ := in5 hk
    have := hh.2.2.2.2.1 j hj; omega
  simp at h5 h6
  have rest : ∀ ρ s6, Fr s3 s6 → (g.kind = 1 ∨ ∀ j, j < 5 → g.q j = 0) → ρ q2 = .sc (.ptr st.next 0) → ρ q3 = .sc (.ptr (st.next + 1) 0) → Ru (cF F) (.seq (.seq (.reg [q55, q56] fun c r s K => lN s n11 (r q3) fun v0 => c n51 [v0] s fun v1 s => K [v1, I0] s)
 (.block n1 (.loop (.seq (.reg [q57] fun c r s K => binK .lss (r q56) I4 fun v0 => K [v0] s)
 (.seq (.cond (.t q57) .skip
 (.exit n1))
 (.seq (.block n2 (.seq (.reg [q6, q7] fun c r s K => h_op2_idxV n4 n1 false (.c (r q55)) (.c (r q56)) c r s fun v0 s => K [(r q56), v0] s)
 (.seq (.reg [q8] fun c r s K => fad n1 (r q3) fun v0 => ixA n4 n1 v0 (r q6) fun v1 => ld s v1 fun v2 => K [v2] s)
 (.seq (.reg [q78] fun c r s K => binK .lss (r q8) (.sc (.int .i64 (.negSucc n0))) fun v0 => mf v0 (r q8) s fun v1 s => jf v0 (fad n1 (r q2)) s fun v2 s => jf v0 (ld s v2) s fun v3 s => jf v0 (binK .geq v1 v3) s fun v4 s => pck v0 tt v4 fun v5 => mf v5 (r q7) s fun v6 s => mf v5 v6 s fun v7 s => mt v7 (r q8) s fun v8 s => jt v7 (binK .lss v8 I0) s fun v9 s => jf v5 (pck v7 v9 ff) s fun v10 s => pck v5 tt v10 fun v11 => K [v11] s)
 (.cond (.t q78) (.seq (.reg [q4] fun c r s K => K [ff] s)
 .ret)
 .skip)))))
 (.reg [q56] fun c r s K => binK .add (r q56) I1 fun v0 => K [v0] s)))))))
 (.seq (.reg [q4] fun c r s K => K [tt] s)
 .ret)) ρ s6 Q := fun ρ s6 k6 h7 e2 e3 => by
    have hgc : rdN s6 (st.next + 1) 0 11 = some (gateC g) := rdN_get rfl fun i x hx => by rw [Nat.zero_add]; exact (f3.trans k6).rd ((hgt i).trans hx)
    refine Ru.seq (Ru.rs fun P hP => ?_)
    simp (disch := first | decide | omega) [e3, hgc]
    refine Rg.call (reads_ok k6.wf g) fun v s7 hv => ?_
    obtain ⟨k7, rfl⟩ := hv
    refine Rg.ret (hP _ _ ?_)
    clear hP P
    have k37 := k6.trans k7
    have mw : ∀ j, j < 4 → rd s7 (st.next + 1) (1 + j) = some (is (g.w j)) := fun j hj => (f3.trans k37).rd ((hgt (1 + j)).trans (by
      rcases (show j = 0 ∨ j = 1 ∨ j = 2 ∨ j = 3 by omega) with rfl | rfl | rfl | rfl <;> rfl))
    have mv := a1 (f3.trans k37)
    have mr : ∀ j, j < 4 → [S.bool (readsD g 0), .bool (readsD g 1), .bool (readsD g 2), .bool (readsD g 3)][j]? = some (.bool (readsD g j)) := fun j hj => by
      rcases (show j = 0 ∨ j = 1 ∨ j = 2 ∨ j = 3 by omega) with rfl | rfl | rfl | rfl <;> rfl
    refine Ru.block (Ru.loop (fun j : Nat => 4 - j) (fun j ρ s => s = s7 ∧ j ≤ 4 ∧ ρ q2 = .sc (.ptr st.next 0) ∧ ρ q3 = .sc (.ptr (st.next + 1) 0) ∧ ρ q55 = .agg [S.bool (readsD g 0), .bool (readsD g 1), .bool (readsD g 2), .bool (readsD g 3)] ∧ ρ q56 = iv j ∧ ∀ i, i < j → -1 ≤ g.w i ∧ g.w i < p.vars ∧ (readsD g i = true → 0 ≤ g.w i))
      ⟨0, rfl, by omega, by simp (disch := first | decide | omega) [e2], by simp (disch := first | decide | omega) [e3], rfl, rfl, fun i hi => by omega⟩ fun j ρ s hI => ?_)
    obtain ⟨hs, hj, e2, e3, e55, e56, hall⟩ := hI
    subst s
    refine Ru.rs fun P hP => ?_
    simp (disch := first | decide | omega) [e56]
    refine Rg.ret (hP _ _ ?_)
    clear hP P
    refine Ru.seq (Ru.cond rfl (fun h => Ru.skip ?_) fun h => Ru.exit ?_)
    rotate_left
    · simp at h
      simp only [Then, Out, if_true]
      have : j = 4 := by omega
      subst this
      exact Ru.rs fun P hP => Rg.ret (hP _ _ (Ru.ret (hQ _ _ (.one rfl ⟨f23.trans k37, true, rfl, by simp only [true_iff]; exact ⟨by omega, by omega, by omega, by omega, fun j hj => Nat.lt_of_le_of_lt (q5' hk' j hj) h6, h7, hall⟩⟩))))
    simp at h
    refine Ru.seq (Ru.block (Ru.rs fun P hP => ?_))
    have hj4 : j < 4 := by omega
    simp (disch := first | decide | omega) [e55, e56, idxV_sc _ _ _ hj4 (mr j hj4)]
    refine Rg.ret (hP _ _ ?_)
    clear hP P
    refine Ru.rs fun P hP => ?_
    simp (disch := first | decide | omega) [e3, mw j hj4]
    refine Rg.ret (hP _ _ ?_)
    clear hP P
    refine Ru.rs fun P hP => ?_
    simp -implicitDefEqProofs +contextual (disch := first | decide | omega) [-Bool.not_or, -Bool.not_and, e2, mv]
    refine Rg.ret (hP _ _ ?_)
    clear hP P
    refine Ru.cond rfl (fun h' => no _ _ _ rfl k37 fun hh => ?_) fun h' => Ru.skip ?_
    · have h1 := hh.2.2.2.2.2.2 j hj4
      simp at h'
      rcases h' with (h' | h') | ⟨h', h''⟩
      · omega
      · omega
      · have := h1.2.2 h'; omega
    simp at h'
    show Ru (cF F) (.reg _ _) _ _ _
    refine Ru.r1 fun P hP => ?_
    simp (disch := first | decide | omega) [e56]
    refine Rg.ret (hP _ _ ⟨j + 1, by omega, rfl, by omega, ?_, ?_, ?_, rfl, fun i hi => ?_⟩)
    · simp (disch := first | decide | omega) [e2]
    · simp (disch := first | decide | omega) [e3]
    · simp (disch := first | decide | omega) [e55]
    · rcases (show i < j ∨ i = j by omega) with hij | rfl
      · exact hall i hij
      · exact ⟨h'.1.1, h'.1.2, h'.2⟩
  by_cases hk1 : g.kind = 1
  · simp (disch := first | decide | omega) [m0 (f3.trans k35)]
    refine Rg.ret (hP _ _ ?_)
    clear hP P
    exact Ru.cond rfl (fun h => by cases h) fun _ => Ru.skip (rest _ _ k35 (.inl hk1) rfl rfl)
  simp (disch := first | decide | omega) [m0 (f3.trans k35)]
  refine Rg.call (maxU_ok k35.wf (hq.fr k35) (by simp) (by simp)) fun v s hv => ?_
  obtain ⟨hs, k2, rfl, hk2, hk2'⟩ := hv
  subst s
  simp (disch := first | decide | omega)
  refine Rg.ret (hP _ _ ?_)
  clear hP P
  refine Ru.cond rfl (fun h => no _ _ _ rfl k35 fun hh => ?_) fun h => Ru.skip (rest _ _ k35 (.inr fun j hj => ?_) rfl rfl)
  · simp at h
    obtain ⟨j, hj, rfl⟩ := in5 hk2
    rcases hh.2.2.2.2.2.1 with h7 | h7
    · exact hk1 h7
    · exact h (h7 j hj)
  · simp at h

    have h9 : g.q j ≤ k2 := mem5 (f := g.q) (p := (· ≤ k2)) hk2' j hj
    omega
end Go.Proofs.YticfndhcbjcklaaDoor.Ev
namespace Go.Proofs.YticfndhcbjcklaaDoor.Ev
set_option linter.unusedSimpArgs false
set_option linter.unusedVariables false
variable {st s t : St} {n i : Nat}
/-! which programs are valid: in plain terms -/
def dat (d : List Int) (x : Int) : Int := (d[x.toNat]?).getD 0
def OkNext (vars : Int) (L : List GateD) (i : Nat) : Prop := ∃ g, L[i + 1]? = some g ∧ ∀ j, j < 4 → 0 ≤ g.w j ∧ g.w j < vars
def OkRow (P : Nat) (vars : Int) (L : List GateD) (i : Nat) : Prop := ∃ g, L[i]? = some g ∧ Formed P vars g ∧ (g.kind = 3 → OkNext vars L i)
def badK (d : List Int) (g : GateD) (k : Nat) : Prop := readsD g k = true ∧ dat d (g.w k) < 0 ∧ ¬ (g.kind = 1 ∧ k = 2)
def mostK (d : List Int) (g : GateD) : Nat → Int
  | 0 => 0
  | k + 1 => if readsD g k = true then max (mostK d g k) (dat d (g.w k)) else mostK d g k
theorem mostK_yes {d : List Int} {g : GateD} {k : Nat} (h : readsD g k = true) : mostK d g (k + 1) = max (mostK d g k) (dat d (g.w k)) := if_pos h
theorem mostK_no {d : List Int} {g : GateD} {k : Nat} (h : readsD g k = false) : mostK d g (k + 1) = mostK d g k := if_neg (by rw [h]; simp)
theorem mostK_nn (d : List Int) (g : GateD) : ∀ k, 0 ≤ mostK d g k
  | 0 => Int.le_refl _
  | k + 1 => by
    have := mostK_nn d g k
    unfold mostK; split <;> omega
def setR (m : Int) (d : List Int) (v : Int) : List Int := if dat d v < 0 then d.set v.toNat (m + 1) else d
def defsR (L : List GateD) (i : Nat) (g : GateD) : List Int := if g.kind = 3 then (match L[i + 1]? with | some h => [h.w 0, h.w 1, h.w 2, h.w 3] | none => []) else if g.q 3 ≠ 0 then [g.w 2] else []
open Classical in
noncomputable def stepD (L : List GateD) (i : Nat) (d : List Int) : Option (List Int) := match L[i]? with
  | none => none
  | some g => if ∃ k, k < 4 ∧ badK d g k then none else some ((defsR L i g).foldl (setR (mostK d g 4)) d)
theorem stepD_bad {L : List GateD} {i : Nat} {d : List Int} {g : GateD} (hg : L[i]? = some g) (h : ∃ k, k < 4 ∧ badK d g k) : stepD L i d = none := by
  unfold stepD; rw [hg]; exact if_pos h
theorem stepD_ok {L : List GateD} {i : Nat} {d : List Int} {g : GateD} (hg : L[i]? = some g) (h : ∀ k, k < 4 → ¬ badK d g k) : stepD L i d = some ((defsR L i g).foldl (setR (mostK d g 4)) d) := by
  unfold stepD; rw [hg]; exact if_neg fun ⟨k, h1, h2⟩ => h k h1 h2
noncomputable def walkD (L : List GateD) (d0 : List Int) : Nat → Option (List Int)
  | 0 => some d0
  | i + 1 => (walkD L d0 i).bind (stepD L i)
theorem walk_none {L : List GateD} {d0 : List Int} {i : Nat} (h : walkD L d0 i = none) : ∀ n, i ≤ n → walkD L d0 n = none
  | 0, hn => by rwa [show i = 0 by omega] at h
  | n + 1, hn => by
    rcases Nat.lt_or_ge n i with h1 | h1
    · rwa [show i = n + 1 by omega] at h
    · show (walkD L d0 n).bind _ = none
      rw [walk_none h n h1]; rfl
def d0L (n k : Nat) : List Int := (List.range n).map fun j => if j < k then 0 else -1
theorem d0L_len (n k : Nat) : (d0L n k).length = n := by simp [d0L]
theorem d0L_zero (n : Nat) : d0L n 0 = List.replicate n (-1) := by
  apply List.ext_getElem
  · simp [d0L]
  · intro i h1 h2; simp [d0L]
theorem d0L_set (n k : Nat) (h : k < n) : (d0L n k).set k 0 = d0L n (k + 1) := by
  apply List.ext_getElem
  · simp [d0L]
  · intro i h1 h2
    simp [d0L, List.getElem_set]
    by_cases hk : k = i
    · subst hk; simp
    · simp [hk]
      congr 1
      exact propext ⟨fun h => by omega, fun h => by omega⟩
theorem setR_t {m : Int} {d : List Int} {v : Int} (h : dat d v < 0) : setR m d v = d.set v.toNat (m + 1) := if_pos h
theorem setR_f {m : Int} {d : List Int} {v : Int} (h : ¬ dat d v < 0) : setR m d v = d := if_neg h
theorem setR_len (m : Int) (d : List Int) (v : Int) : (setR m d v).length = d.length := by unfold setR; split <;> simp
theorem foldR_len (m : Int) : ∀ (l : List Int) (d : List Int), (l.foldl (setR m) d).length = d.length
  | [], d => rfl
  | v :: l, d => by rw [List.foldl_cons, foldR_len m l, setR_len]
theorem dat_le {d : List Int} {b : Int} (h : ∀ x ∈ d, x ≤ b) (hb : 0 ≤ b) (x : Int) : dat d x ≤ b := by
  unfold dat
  cases hx : d[x.toNat]? with
  | none => exact hb
  | some y => exact h y (List.mem_of_getElem? hx)
theorem mostK_le {d : List Int} {b : Int} (h : ∀ x ∈ d, x ≤ b) (hb : 0 ≤ b) (g : GateD) : ∀ k, mostK d g k ≤ b
  | 0 => hb
  | k + 1 => by
    have h1 := mostK_le h hb g k
    have h2 := dat_le h hb (g.w k)
    cases hr : readsD g k with
    | true => rw [mostK_yes hr]; omega
    | false => rw [mostK_no hr]; exact h1
theorem foldR_le {m b : Int} (hm : m + 1 ≤ b) : ∀ (l : List Int) (d : List Int), (∀ x ∈ d, x ≤ b) → ∀ x ∈ l.foldl (setR m) d, x ≤ b
  | [], d, h => h
  | v :: l, d, h => foldR_le hm l _ fun x hx => by
    unfold setR at hx
    split at hx
    · rcases List.mem_or_eq_of_mem_set hx with h1 | rfl
      · exact h x h1
      · omega
    · exact h x hx
theorem walk_le {L : List GateD} {d0 : List Int} (h0 : ∀ x ∈ d0, x ≤ 0) : ∀ (i : Nat) (d : List Int), walkD L d0 i = some d → ∀ x ∈ d, x ≤ (i : Int)
  | 0, d, h => by cases h; exact h0
  | i + 1, d, h => by
    have h : (walkD L d0 i).bind (stepD L i) = some d := h
    cases h1 : walkD L d0 i with
    | none => rw [h1] at h; cases h
    | some e =>
      rw [h1] at h
      have ih := walk_le h0 i e h1
      have h : stepD L i e = some d := h
      have key : ∀ g, some ((defsR L i g).foldl (setR (mostK e g 4)) e) = some d → ∀ x ∈ d, x ≤ ((i + 1 : Nat) : Int) := fun g hd => by
        cases hd
        have := mostK_le ih (by omega) g 4
        exact foldR_le (by omega) _ _ fun x hx => by have := ih x hx; omega
      unfold stepD at h
      split at h
      · cases h
      · split at h
        · cases h
        · exact key _ h
theorem d0L_le (n k : Nat) : ∀ x ∈ d0L n k, x ≤ 0 := fun x hx => by
  simp only [d0L, List.mem_map] at hx
  obtain ⟨a, _, rfl⟩ := hx
  split <;> omega
structure Base (p : GatesD) : Prop where
  f0 : 0 ≤ p.field
  f4 : p.field < 4
  p0 : 0 ≤ p.pub
  p1 : p.pub ≤ 16
  s0 : 0 ≤ p.sec
  s1 : p.sec ≤ 20000
  v0 : p.pub + p.sec ≤ p.vars
  v1 : p.vars ≤ 40000
  r1 : p.rows.length ≤ 8000
structure ValidG (p : GatesD) : Prop where
  base : Base p
  rows : ∀ i, i < p.rows.length → OkRow (pC p.field.toNat) p.vars p.rows i
  walk : ∃ d, walkD p.rows (d0L p.vars.toNat (p.pub + p.sec).toNat) p.rows.length = some d ∧ (-1 : Int) ∉ d
end Go.Proofs.YticfndhcbjcklaaDoor.Ev
namespace Go.Proofs.YticfndhcbjcklaaDoor.Ev
set_option linter.unusedSimpArgs false
set_option linter.unusedVariables false
variable {st s t : St} {n i id off : Nat}
theorem dat_rd {d : List Int} {x : Int} {c : Option Nat} (hD : Sat st (.slice id 0 n c 1) n 1 (d.map is)) (hdl : d.length = n) (h1 : 0 ≤ x) (h2 : x < n) : rd st id x.toNat = some (is (dat d x)) := by
  obtain ⟨_, _, _, he, hh⟩ := hD.rd (by omega)
  cases he
  have hx : x.toNat < d.length := by omega
  have := hh x.toNat (is (dat d x)) (by
    rw [List.getElem?_map, List.getElem?_eq_getElem hx]
    simp [dat, List.getElem?_eq_getElem hx])
  rwa [Nat.zero_add] at this
theorem defs_ok {ρ : Ev} {u : St} {Q : X → Ev → St → Prop} {y : S} {vs d : List Int} {m : Int} (hw : WfS u) (e4 : ρ q4 = .sc (.slice id 0 n (some n) 1)) (e8 : ρ q8 = iv m) (e11 : ρ q11 = .sc y) (hy : RepI u y vs) (hyid : sid y ≠ some id) (ho : Own u id n) (hid : id < u.next)
    (hdl : d.length = n) (hD : Sat u (.slice id 0 n (some n) 1) n 1 (d.map is)) (hvs : ∀ v ∈ vs, 0 ≤ v ∧ v < n) (hm0 : 0 ≤ m) (hm1 : m < 1000000000) (hlen : vs.length < 1000000000)
    (hQ : ∀ ρ' u', Keep [q1, q4, q74, q75, q76] ρ' ρ → Kp (some id) u u' → Own u' id n → u'.next = u.next → Sat u' (.slice id 0 n (some n) 1) n 1 ((vs.foldl (setR m) d).map is) → Q .normal ρ' u') :
    Ru (cF F) (.seq (.reg [q175, q176, q177] fun c r s K => lnS (r q11) fun v0 => K [(r q11), v0, I0] s)
 (.block n7 (.loop (.seq (.reg [q178] fun c r s K => binK .lss (r q177) (r q176) fun v0 => K [v0] s)
 (.seq (.cond (.t q178) .skip
 (.exit n7))
 (.seq (.block n8 (.seq (.reg [q13] fun c r s K => ixs n1 (r q175) (r q177) fun v0 => ld s v0 fun v1 => K [v1] s)
 (.seq (.reg [q185] fun c r s K => ixs n1 (r q4) (r q13) fun v0 => ld s v0 fun v1 => binK .lss v1 I0 fun v2 => K [v2] s)
 (.cond (.t q185) (.reg [] fun c r s K => binK .add (r q8) I1 fun v0 => ixs n1 (r q4) (r q13) fun v1 => sto s n1 v1 v0 fun s => K [] s)
 .skip))))
 (.reg [q177] fun c r s K => binK .add (r q177) I1 fun v0 => K [v0] s))))))) ρ u Q := by
  refine Ru.rs fun P hP => ?_
  simp -implicitDefEqProofs (disch := first | decide | omega) [e11, lnS_sat hy]
  refine Rg.ret (hP _ _ ?_)
  clear hP P
  refine Ru.at (fun ρ' => Keep [q1, q4, q8, q74, q75, q76] ρ' ρ ∧ ρ' q175 = .sc y ∧ ρ' q176 = iv vs.length ∧ ρ' q177 = iv 0) ⟨by repeat first | exact Keep.refl _ _ | refine Keep.up (by rfl) ?_, rfl, rfl, rfl⟩ fun ρ1 hE => ?_
  obtain ⟨hk1, e175, e176, e177⟩ := hE
  refine Ru.block (Ru.lp [q1, q4, q8, q74, q75, q76, q175, q176] (fun j : Nat => vs.length - j) (fun j ρ' u' => j ≤ vs.length ∧ ρ' q177 = iv j ∧ Kp (some id) u u' ∧ Own u' id n ∧ u'.next = u.next ∧ Sat u' (.slice id 0 n (some n) 1) n 1 (((vs.take j).foldl (setR m) d).map is))
    ⟨0, by omega, e177, (Fr.refl hw).kp _, ho, rfl, hD⟩ fun j ρ' u' hk hI => ?_)
  clear e177 ho hD
  obtain ⟨hj, e177, kp, ho, hnx, hD⟩ := hI
  refine Ru.rs fun P hP => ?_
  simp -implicitDefEqProofs (disch := first | decide | omega) [hk.e, e176, e177]
  refine Rg.ret (hP _ _ ?_)
  clear hP P
  refine Ru.seq (Ru.cond rfl (fun h => Ru.skip ?_) fun h => Ru.exit ?_)
  rotate_left
  · simp at h
    have : j = vs.length := by omega
    subst this
    rw [List.take_length] at hD
    simp only [Then, Out, if_true]
    exact hQ _ _ (.via (m := [q1, q4, q8, q74, q75, q76]) (by rfl) (by repeat first | exact .via (by rfl) hk hk1 | refine Keep.up (by rfl) ?_) (.refl _ _)) kp ho hnx hD
  simp at h
  have hgi := List.getElem?_eq_getElem (show j < vs.length by omega)
  have hv := hvs _ (List.getElem_mem (show j < vs.length by omega))
  generalize vs[j] = v at hgi hv
  have hy' : RepI u' y vs := hy.keep kp fun id' h => by cases h; exact hyid
  obtain ⟨id1, o1, hx1, hc1, _⟩ := elt1 hy' hgi
  have hdl' : ((vs.take j).foldl (setR m) d).length = n := by rw [foldR_len]; exact hdl
  have hdj := dat_rd hD hdl' hv.1 hv.2
  have hstep : (vs.take (j + 1)).foldl (setR m) d = setR m ((vs.take j).foldl (setR m) d) v := by
    rw [List.take_add_one, hgi]
    simp
  refine Ru.seq (Ru.block (Ru.rs fun P hP => ?_))
  simp -implicitDefEqProofs (disch := first | decide | omega) [hk.e, e175, e177, hx1, hc1]
  refine Rg.ret (hP _ _ ?_)
  clear hP P
  refine Ru.rs fun P hP => ?_
  simp -implicitDefEqProofs (disch := first | decide | omega) [hk.e, hk1.e, e4, hdj]
  refine Rg.ret (hP _ _ ?_)
  clear hP P
  refine Ru.cond rfl (fun h => Ru.r1 fun P hP => ?_) fun h => Ru.skip ?_
  · simp at h
    have hst : ∀ (x : Int) (K : St → R), sto u' 1 (V.sc (S.ptr id v.toNat)) (.sc (is x)) K = K (wr u' id v.toNat [is x]) := fun x K => sto_sc K ho (by omega)
    simp -implicitDefEqProofs (disch := first | decide | omega) [hk.e, hk1.e, e4, e8, hst]
    refine Rg.ret (hP _ _ ?_)
    clear hP P
    simp only [Then, Out]
    refine Ru.r1 fun P hP => ?_
    simp -implicitDefEqProofs (disch := first | decide | omega) [e177]
    refine Rg.ret (hP _ _ ⟨by repeat first | exact hk | refine Keep.up (by rfl) ?_, j + 1, by omega, by omega, rfl, kp.trans (kp_wr kp.wf (by omega)), ho.wr, by rw [wr_next]; exact hnx, ?_⟩)
    rw [hstep, setR_t h]
    have h2 := hD.set ho (by omega) (show v.toNat < n by omega) (is (m + 1))
    rw [Nat.zero_add, ← List.map_set] at h2
    exact h2
  · simp at h
    simp only [Then, Out]
    refine Ru.r1 fun P hP => ?_
    simp -implicitDefEqProofs (disch := first | decide | omega) [e177]
    refine Rg.ret (hP _ _ ⟨by repeat first | exact hk | refine Keep.up (by rfl) ?_, j + 1, by omega, by omega, rfl, kp, ho, hnx, ?_⟩)
    rw [hstep, setR_f (by omega)]; exact hD
end Go.Proofs.YticfndhcbjcklaaDoor.Ev
namespace Go.Proofs.YticfndhcbjcklaaDoor.Ev
set_option linter.unusedSimpArgs false
set_option linter.unusedVariables false
variable {st s t : St} {n i id off : Nat}
theorem sliceA_ok {m : Nat} {x : S} (h : rd st id (off + m) = some x) (c : CallK) (r : Ev) (K : V → St → R) : h_op3_sliceA (m + 1) 1 (.c (.sc (.ptr id off))) none none none c r st K = K (.sc (.slice id off (m + 1) (some (m + 1)) 1)) st := by
  unfold rd at h
  cases hb : st.heap.get id with
  | none => rw [hb] at h; cases h
  | some b =>
    rw [hb] at h
    have h : b.cell (off + m) = some x := h
    have hlt : off + m < b.n := by
      unfold Blk.cell at h
      cases h2 : Nat.blt (off + m) b.n with
      | false => rw [h2] at h; cases h
      | true => exact blt_of h2
    show Option.rec (motive := fun _ => R) (.fail 26) (fun b => iteB (Nat.ble (Nat.add off (Nat.mul (m + 1) 1)) b.n) (cutKn r 1 id off (m + 1) (m + 1) none none none fun v => K v st) (.fail 26)) (hget st.heap id) = _
    rw [hget_eq, hb]
    show iteB (Nat.ble (off + (m + 1) * 1) b.n) (cutKn r 1 id off (m + 1) (m + 1) none none none fun v => K v st) (.fail 26) = _
    rw [Nat.ble_eq_true_of_le (by omega), iteB_true]
    unfold cutKn
    rw [bound_none, bound_none, bound_none]
    rw [show Nat.beq (m + 1) 0 = false from rfl, iteB_false, seqN_eq, seqN_eq, seqN_eq]
    rfl
theorem mem4 {f : Nat → Int} {p : Int → Prop} (h : ∀ y ∈ [f 0, f 1, f 2, f 3], p y) : ∀ j, j < 4 → p (f j) := fun j hj => by
  rcases (show j = 0 ∨ j = 1 ∨ j = 2 ∨ j = 3 by omega) with rfl | rfl | rfl | rfl <;> exact h _ (by simp)
theorem sliceA_cut {m lo hi : Nat} {x : S} (h : rd st id (off + m) = some x) (h1 : lo ≤ hi) (h2 : hi ≤ m + 1) (h3 : lo ≤ m) (c : CallK) (r : Ev) (K : V → St → R) : h_op3_sliceA (m + 1) 1 (.c (.sc (.ptr id off))) (some (.c (iv lo))) (some (.c (iv hi))) none c r st K = K (.sc (.slice id (off + lo) (hi - lo) (some (m + 1 - lo)) 1)) st := by
  unfold rd at h
  cases hb : st.heap.get id with
  | none => rw [hb] at h; cases h
  | some b =>
    rw [hb] at h
    have h : b.cell (off + m) = some x := h
    have hlt : off + m < b.n := by
      unfold Blk.cell at h
      cases h2 : Nat.blt (off + m) b.n with
      | false => rw [h2] at h; cases h
      | true => exact blt_of h2
    show Option.rec (motive := fun _ => R) (.fail 26) (fun b => iteB (Nat.ble (Nat.add off (Nat.mul (m + 1) 1)) b.n) (cutKn r 1 id off (m + 1) (m + 1) (some (.c (iv lo))) (some (.c (iv hi))) none fun v => K v st) (.fail 26)) (hget st.heap id) = _
    rw [hget_eq, hb]
    show iteB (Nat.ble (off + (m + 1) * 1) b.n) (cutKn r 1 id off (m + 1) (m + 1) (some (.c (iv lo))) (some (.c (iv hi))) none fun v => K v st) (.fail 26) = _
    rw [Nat.ble_eq_true_of_le (by omega), iteB_true]
    unfold cutKn
    rw [bound_none, bound_some _ _ _ _ _ h2, bound_some _ _ _ _ _ h1]
    have : Nat.beq (m + 1) lo = false := by rw [← Bool.not_eq_true]; intro hh; have := Nat.eq_of_beq_eq_true hh; omega
    rw [this, iteB_false, seqN_eq, seqN_eq, seqN_eq]
    show K (.sc (.slice id (off + lo * 1) (hi - lo) (some (m + 1 - lo)) 1)) st = _
    rw [Nat.mul_one]
theorem valid46 (x : Int) (st : St) : Ca (cF F) 46 [iv x] st (fun v s => s = st ∧ ∃ b, v = bl b ∧ (b = true ↔ 0 ≤ x ∧ x < 4)) :=
  (fValid (F := F) (v := 46) rfl rfl x st).imp fun v s h => ⟨h.2, _, h.1, by simp⟩
theorem depths_ok (hg : Glo st) (p : GatesD) (hp : RepRows st p.sl p.rows) (hlen : p.rows.length < 9223372036854775808) :
    Ca (cF F) 34 [.agg (gC p)] st (fun v s => Fr st s ∧ ∃ y b, v = .tup [(false, [y]), (false, [.bool b])] ∧ (b = true ↔ ValidG p)) := by
  refine Ca.of (hf := cf34) rfl rfl [q0] [.tmp q2, .tmp q3] rfl rfl rfl fun Q hQ => ?_
  have hw := hg.wf
  have f1 : Fr st (new st (gC p)) := (Fr.refl hw).new _
  have hb : ∀ i, rd (new st (gC p)) st.next i = (gC p)[i]? := fun i => by rw [rd_new, if_pos rfl]
  have hn1 : (new st (gC p)).next = st.next + 1 := rfl
  refine Ru.rs fun P hP => ?_
  simp (disch := first | decide | omega)
  refine Rg.ret (hP _ _ ?_)
  clear hP P
  generalize new st (gC p) = s1 at *
  have no : ∀ (Q' : X → Ev → St → Prop) (ρ : Ev) (t : St), Q' .ret = Q .ret → Fr st t → ¬ ValidG p → Ru (cF F) (.seq (.reg [q2, q3] fun c r s K => K [(.sc zn), ff] s) .ret) ρ t Q' := fun Q' ρ t he k hn =>
    Ru.sreg (Rg.ret (Ru.ret (he ▸ hQ _ _ (.two rfl rfl ⟨k, zn, false, rfl, by simp [hn]⟩))))
  have b0 : rd s1 st.next 0 = some (is p.field) := hb 0
  have b1 : rd s1 st.next 1 = some (is p.vars) := hb 1
  have b2 : rd s1 st.next 2 = some (is p.pub) := hb 2
  have b3 : rd s1 st.next 3 = some (is p.sec) := hb 3
  have b4 : rd s1 st.next 4 = some p.sl := hb 4
  refine Ru.seq (Ru.rs fun P hP => ?_)
  simp (disch := first | decide | omega) [b0]
  refine Rg.call (valid46 _ _) fun v s h => ?_
  obtain ⟨hs, vb, rfl, hvb⟩ := h
  subst s
  simp -implicitDefEqProofs +contextual (disch := first | decide | omega) [-Bool.not_or, -Bool.not_and, b0, b1, b2, b3, b4]
  refine Rg.ret (hP _ _ ?_)
  clear hP P
  refine Ru.cond rfl (fun h => no _ _ _ rfl f1 fun hh => ?_) fun h => Ru.skip ?_
  · simp at h
    have := hh.base
    have h2 := hvb.2 ⟨this.f0, this.f4⟩
    rw [h2] at h
    obtain ⟨_, _, _, _, _, _, _, _, _⟩ := this
    simp at h; omega
  simp at h
  obtain ⟨⟨⟨⟨hv, c1⟩, c2⟩, c3⟩, c4⟩ := h
  rw [hv] at hvb
  obtain ⟨c5, c6⟩ := hvb.1 rfl
  refine Ru.seq (Ru.rs fun P hP => ?_)
  simp -implicitDefEqProofs +contextual (disch := first | decide | omega) [-Bool.not_or, -Bool.not_and, b0, b1, b2, b3, b4, lnS_sat (hp.fr f1)]
  refine Rg.ret (hP _ _ ?_)
  clear hP P
  refine Ru.cond rfl (fun h => no _ _ _ rfl f1 fun hh => ?_) fun h => Ru.skip ?_
  · simp at h
    obtain ⟨_, _, _, _, _, _, _, _, _⟩ := hh.base
    omega
  simp at h
  obtain ⟨⟨c7, c8⟩, c9⟩ := h
  have base : Base p := ⟨c5, c6, c1, c2, c3, c4, c7, c8, by omega⟩
  obtain ⟨n, hn⟩ := Int.eq_ofNat_of_zero_le (show 0 ≤ p.vars by omega)
  obtain ⟨m, hm⟩ := Int.eq_ofNat_of_zero_le (show 0 ≤ p.pub + p.sec by omega)
  have hfill : ∀ tm K, fillK tm K [(0, 1, .c (iv (-1)))] [is 0] = K [is (-1)] := fun tm K => (fill_sc tm K _ 0 (is (-1)) [] (by simp)).trans (by rw [fill_nil]; rfl)
  refine Ru.rs fun P hP => ?_
  simp (disch := first | decide | omega) [b1, buildS_eq, hfill, hn]
  have f2 : Fr s1 (new s1 [is (-1)]) := (Fr.refl f1.wf).new _
  have hneg : RepI (new s1 [is (-1)]) (.slice s1.next 0 1 (some 1) 1) [-1] := Sat.new rfl fun m h => by cases h; exact Nat.le_refl _
  simp (disch := first | decide | omega) [f2.rd b1, hn]
  refine Rg.call (repeat_ok f2.wf hneg n (by omega)) fun v s2 h => ?_
  obtain ⟨k2, id, hid, rfl, ho, hr⟩ := h
  refine Rg.ret (hP _ _ ?_)
  clear hP P
  have f12 := f1.trans (f2.trans k2)
  have hid1 : st.next < id := by have := f2.next; omega
  refine Ru.seq (Ru.rs fun P hP => ?_)
  have b2' := (f2.trans k2).rd b2
  have b3' := (f2.trans k2).rd b3
  simp (disch := first | decide | omega) [b2', b3', hm]
  refine Rg.ret (hP _ _ ?_)
  clear hP P
  have hI0 : Sat s2 (.slice id 0 n (some n) 1) n 1 ((d0L n 0).map is) := by
    refine sat_of_rd ho (by simp [d0L]) (fun m hm => by cases hm; exact Nat.le_refl _) fun i x hx => ?_
    rw [d0L_zero, List.map_replicate, List.getElem?_replicate] at hx
    split at hx
    · cases hx; rw [Nat.zero_add]; exact hr i (by assumption)
    · cases hx
  have hbx : ∀ {t : St}, Fr s2 t → ∀ i y, (gC p)[i]? = some y → rd t st.next i = some y := fun k i y hy => (f2.trans (k2.trans k)).rd ((hb i).trans hy)
  have hmn : m ≤ n := by omega
  refine Ru.block (Ru.loop (fun k : Nat => m - k) (fun k ρ s => Fr st s ∧ (∀ i y, (gC p)[i]? = some y → rd s st.next i = some y) ∧ id < s.next ∧ k ≤ m ∧ ρ q1 = .sc (.ptr st.next 0) ∧ ρ q4 = .sc (.slice id 0 n (some n) 1) ∧ ρ q65 = iv m ∧ ρ q66 = iv k ∧ Own s id n ∧ Sat s (.slice id 0 n (some n) 1) n 1 ((d0L n k).map is))
    ⟨0, f12, hbx (Fr.refl k2.wf), by obtain ⟨b, hb', _⟩ := ho; exact Classical.byContradiction fun hh => by (rw [k2.wf id (by omega)] at hb'; cases hb'), by omega, rfl, rfl, rfl, rfl, ho, hI0⟩ fun k ρ s hI => ?_)
  obtain ⟨hf, hbs, hids, hk, e1, e4, e65, e66, ho, hD⟩ := hI
  refine Ru.rs fun P hP => ?_
  simp (disch := first | decide | omega) [e65, e66]
  refine Rg.ret (hP _ _ ?_)
  clear hP P
  refine Ru.seq (Ru.cond rfl (fun h => Ru.skip ?_) fun h => Ru.exit ?_)
  · simp at h
    refine Ru.seq (Ru.block (Ru.rs fun P hP => ?_))
    refine Rg.ret (hP _ _ ?_)
    clear hP P
    refine Ru.r1 fun P hP => ?_
    have hst : ∀ K : St → R, sto s 1 (V.sc (S.ptr id k)) (.sc (is 0)) K = K (wr s id k [is 0]) := fun K => sto_sc K ho (by omega)
    simp (disch := first | decide | omega) [e66, e4, hst]
    refine Rg.ret (hP _ _ ?_)
    clear hP P
    show Ru (cF F) (.reg _ _) _ _ _
    refine Ru.r1 fun P hP => ?_
    simp (disch := first | decide | omega) [e66]
    have hD' := hD.set ho (by omega) (show k < n by omega) (is 0)
    rw [Nat.zero_add, ← List.map_set, d0L_set n k (by omega)] at hD'
    have kp := kp_wr (off := k) (l := [is 0]) hf.wf hids
    refine Rg.ret (hP _ _ ⟨k + 1, by omega, kp.fr hf (fun i h => by cases h; omega) hw, fun i y hy => kp.rd (by simp; omega) (hbs i y hy), by rw [wr_next]; exact hids, by omega, ?_, ?_, ?_, rfl, ho.wr, hD'⟩)
    · simp (disch := first | decide | omega) [e1]
    · simp (disch := first | decide | omega) [e4]
    · simp (disch := first | decide | omega) [e65]
  simp at h
  have : k = m := by omega
  subst this
  simp only [Then, Out, if_true]
  clear hI0 hbx hr
  refine Ru.seq (Ru.rs fun P hP => ?_)
  simp (disch := first | decide | omega) [e1, hbs 4 _ rfl, lnS_sat (hp.fr hf)]
  refine Rg.ret (hP _ _ ?_)
  clear hP P
  refine Ru.block (Ru.loop (fun i : Nat => p.rows.length - i) (fun i ρ s => Fr st s ∧ (∀ i y, (gC p)[i]? = some y → rd s st.next i = some y) ∧ id < s.next ∧ i ≤ p.rows.length ∧ ρ q1 = .sc (.ptr st.next 0) ∧ ρ q4 = .sc (.slice id 0 n (some n) 1) ∧ ρ q74 = .sc p.sl ∧ ρ q75 = iv p.rows.length ∧ ρ q76 = iv i ∧ Own s id n ∧ (∀ j, j < i → OkRow (pC p.field.toNat) p.vars p.rows j) ∧ ∃ d, walkD p.rows (d0L n k) i = some d ∧ d.length = n ∧ Sat s (.slice id 0 n (some n) 1) n 1 (d.map is))
    ⟨0, hf, hbs, hids, by omega, ?_, ?_, rfl, rfl, rfl, ho, fun j hj => by omega, d0L n k, rfl, d0L_len _ _, hD⟩ fun i ρ s hI => ?_)
  · simp (disch := first | decide | omega) [e1]
  · simp (disch := first | decide | omega) [e4]
  clear hf hbs hids e1 e4 e65 e66 ho hD
  obtain ⟨hf, hbs, hids, hi, e1, e4, e74, e75, e76, ho, hrows, d, hwk, hdl, hD⟩ := hI
  refine Ru.rs fun P hP => ?_
  simp (disch := first | decide | omega) [e75, e76]
  refine Rg.ret (hP _ _ ?_)
  clear hP P
  refine Ru.seq (Ru.cond rfl (fun h => Ru.skip ?_) fun h => Ru.exit ?_)
  rotate_left
  · simp at h
    have : i = p.rows.length := by omega
    subst this
    simp only [Then, Out, if_true]
    refine Ru.rs fun P hP => ?_
    have hDI : RepI s (.slice id 0 n (some n) 1) d := by
      show Sat s _ d.length 1 _
      rw [hdl]; exact hD
    simp (disch := first | decide | omega) [e4]
    refine Rg.call (index_ok hf.wf hDI (by omega) (-1)) fun v s' hv => ?_
    obtain ⟨hs, rfl⟩ := hv
    subst s'
    simp only [nott_eq]
    refine Rg.ret (hP _ _ (Ru.ret (hQ _ _ (.two rfl rfl ⟨hf, _, _, rfl, ?_⟩))))
    simp only [Bool.not_eq_true', decide_eq_false_iff_not]
    have hkk : (p.pub + p.sec).toNat = k := by omega
    have hnn : p.vars.toNat = n := by omega
    constructor
    · intro hm
      exact ⟨base, hrows, d, by rw [hkk, hnn]; exact hwk, hm⟩
    · intro hh
      obtain ⟨d', h1, h2⟩ := hh.walk
      rw [hkk, hnn, hwk] at h1
      cases h1; exact h2
  simp at h
  have hlt : i < p.rows.length := by omega
  have hgi := List.getElem?_eq_getElem hlt
  generalize p.rows[i] = g at hgi
  obtain ⟨rid, ro, hix, hgc, hrsid⟩ := elt (f := gateC) (z := 11) (fun _ => rfl) (hp.fr hf) hgi
  have hgN : rdN s rid ro 11 = some (gateC g) := rdN_get rfl hgc
  refine Ru.seq (Ru.block (Ru.rs fun P hP => ?_))
  have hst : ∀ K : St → R, sto (new s [bs 0, is 0, is 0, is 0, is 0, us 0, us 0, us 0, us 0, us 0, is 0]) 11 (V.sc (S.ptr s.next 0)) (.agg (gateC g)) K = K (wr (new s [bs 0, is 0, is 0, is 0, is 0, us 0, us 0, us 0, us 0, us 0, is 0]) s.next 0 (gateC g)) := fun K => sto_new K rfl rfl
  simp (disch := first | decide | omega) [e74, e76, hix, hgN, hst]
  clear hst
  have k3 := fr_mk hf.wf [bs 0, is 0, is 0, is 0, is 0, us 0, us 0, us 0, us 0, us 0, is 0] (gateC g)
  have hrow : ∀ i, rd (wr (new s [bs 0, is 0, is 0, is 0, is 0, us 0, us 0, us 0, us 0, us 0, is 0]) s.next 0 (gateC g)) s.next i = (gateC g)[i]? := fun i => by rw [rd_mk (by simp), if_pos rfl]
  refine Rg.ret (hP _ _ ?_)
  clear hP P
  have hids3 : id < (wr (new s [bs 0, is 0, is 0, is 0, is 0, us 0, us 0, us 0, us 0, us 0, is 0]) s.next 0 (gateC g)).next := by rw [next_mk]; omega
  have hs3 : s.next < (wr (new s [bs 0, is 0, is 0, is 0, is 0, us 0, us 0, us 0, us 0, us 0, is 0]) s.next 0 (gateC g)).next := by rw [next_mk]; omega
  generalize wr (new s [bs 0, is 0, is 0, is 0, is 0, us 0, us 0, us 0, us 0, us 0, is 0]) s.next 0 (gateC g) = s3 at *
  have hpN : rdN s3 st.next 0 5 = some (gC p) := rdN_get rfl fun i x hx => by rw [Nat.zero_add]; exact k3.rd (hbs i x hx)
  have hrN : rdN s3 s.next 0 11 = some (gateC g) := rdN_get rfl fun i x hx => by rw [Nat.zero_add]; exact (hrow i).trans hx
  have hnoRow : ¬ OkRow (pC p.field.toNat) p.vars p.rows i → ¬ ValidG p := fun hn hh => hn (hh.rows i hlt)
  refine Ru.seq (Ru.seq (Ru.d1 fun P hP => ?_))
  refine Rg.imp (P := fun l t => ∃ b, l = [bl b] ∧ Fr s3 t ∧ (b = false ↔ OkRow (pC p.field.toNat) p.vars p.rows i)) ?_ fun l t h => hP _ _ ?_
  · clear hP P
    refine Rg.hide fun P hP => ?_
    simp -implicitDefEqProofs (disch := first | decide | omega) [e1, hpN, hrN]
    refine Rg.dc (fun v => ∃ b, v = bl b ∧ (b = true ↔ Formed (pC p.field.toNat) p.vars g)) k3.wf (by decide) (by decide) ((formed_ok ((hg.fr (hf.trans k3)).low _) p g c5 c6).imp fun v s h => h) fun v s4 k4 hv => ?_
    obtain ⟨vf, rfl, hvf⟩ := hv
    have h4 := k3.trans k4
    have hf4 := hf.trans h4
    have m0 : rd s4 s.next 0 = some (bs g.kind) := k4.rd (hrow 0)
    have p1 : rd s4 st.next 1 = some (is p.vars) := h4.rd (hbs 1 _ rfl)
    have p4 : rd s4 st.next 4 = some p.sl := h4.rd (hbs 4 _ rfl)
    cases vf with
    | false =>
      simp -implicitDefEqProofs (disch := first | decide | omega)
      refine Rg.ret (hP _ _ ⟨true, rfl, k4, ?_⟩)
      constructor
      · intro h; cases h
      · intro hh
        obtain ⟨g', h1, h2, _⟩ := hh
        rw [hgi] at h1; cases h1
        exact absurd (hvf.2 h2) (by simp)
    | true =>
    have hfm := hvf.1 rfl
    by_cases hk3 : g.kind = 3
    rotate_left
    · simp -implicitDefEqProofs (disch := first | decide | omega) [m0]
      exact Rg.ret (hP _ _ ⟨false, rfl, k4, by simp; exact ⟨g, hgi, hfm, fun h => absurd h hk3⟩⟩)
    by_cases hl : i + 1 = p.rows.length
    · simp -implicitDefEqProofs (disch := first | decide | omega) [m0, e1, p4, lnS_sat (hp.fr hf4)]
      refine Rg.ret (hP _ _ ⟨true, rfl, k4, ?_⟩)
      constructor
      · intro h; cases h
      · intro hh
        obtain ⟨g', h1, h2, h3⟩ := hh
        rw [hgi] at h1; cases h1
        obtain ⟨g2, h5, _⟩ := h3 hk3
        have := (List.getElem?_eq_some_iff.1 h5).1
        omega
    have hgj := List.getElem?_eq_getElem (show i + 1 < p.rows.length by omega)
    generalize p.rows[i + 1] = g2 at hgj
    obtain ⟨id2, o2, hix2, hc2, _⟩ := elt (f := gateC) (z := 11) (fun _ => rfl) (hp.fr hf4) hgj
    have hix2' : ∀ K, ixs 11 (V.sc p.sl) (iv ((i : Int) + 1)) K = K (.sc (.ptr id2 o2)) := fun K => hix2 K
    have hws : ∀ {t : St}, Fr s4 t → RepI t (.slice id2 (o2 + 1) 4 (some 4) 1) [g2.w 0, g2.w 1, g2.w 2, g2.w 3] := fun k => sat_of_rd' (by decide) rfl (fun m h => by cases h; exact Nat.le_refl _) fun j x hx => by
      rw [Nat.add_assoc]
      refine k.rd (hc2 (1 + j) x ?_)
      have hj : j < 4 := by have := (List.getElem?_eq_some_iff.1 hx).1; simpa using this
      rcases (show j = 0 ∨ j = 1 ∨ j = 2 ∨ j = 3 by omega) with rfl | rfl | rfl | rfl <;> exact hx
    have hsl : ∀ {t : St}, Fr s4 t → ∀ (c : CallK) (r : Ev) (K : V → St → R), h_op3_sliceA 4 1 (.c (.sc (.ptr id2 (o2 + 1)))) none none none c r t K = K (.sc (.slice id2 (o2 + 1) 4 (some 4) 1)) t := fun k => sliceA_ok (m := 3) (k.rd (hc2 4 _ rfl))
    have okn : OkRow (pC p.field.toNat) p.vars p.rows i → ∀ y ∈ [g2.w 0, g2.w 1, g2.w 2, g2.w 3], 0 ≤ y ∧ y < p.vars := fun hh y hy => by
      obtain ⟨g', h1, h2, h3⟩ := hh
      rw [hgi] at h1; cases h1
      obtain ⟨g3, h5, h6⟩ := h3 hk3
      rw [hgj] at h5; cases h5
      simp at hy
      rcases hy with rfl | rfl | rfl | rfl
      · exact h6 0 (by omega)
      · exact h6 1 (by omega)
      · exact h6 2 (by omega)
      · exact h6 3 (by omega)
    simp -implicitDefEqProofs (disch := first | decide | omega) [m0, e1, p4, lnS_sat (hp.fr hf4), hix2', hsl (Fr.refl k4.wf)]
    refine Rg.dc (fun v => ∃ k : Int, v = iv k ∧ k ∈ [g2.w 0, g2.w 1, g2.w 2, g2.w 3] ∧ ∀ y ∈ [g2.w 0, g2.w 1, g2.w 2, g2.w 3], k ≤ y) k4.wf (by decide) (by decide) ((minI_ok (wf_setLow (h := k4.wf)) ((hws (Fr.refl k4.wf)).low _) (by simp) (by simp)).imp fun v s h => ⟨by rw [h.1]; exact Fr.refl (wf_setLow (h := k4.wf)), h.2⟩) fun v s5 k5 hv => ?_
    obtain ⟨a, rfl, ha, ha'⟩ := hv
    have h5 := k4.trans k5
    by_cases hneg : a < 0
    · simp -implicitDefEqProofs (disch := first | decide | omega)
      refine Rg.ret (hP _ _ ⟨true, rfl, h5, ?_⟩)
      constructor
      · intro h; cases h
      · intro hh
        have := (okn hh a ha).1
        omega
    simp -implicitDefEqProofs (disch := first | decide | omega) [e1, k5.rd p4, hix2', hsl k5]
    refine Rg.dc (fun v => ∃ k : Int, v = iv k ∧ k ∈ [g2.w 0, g2.w 1, g2.w 2, g2.w 3] ∧ ∀ y ∈ [g2.w 0, g2.w 1, g2.w 2, g2.w 3], y ≤ k) k5.wf (by decide) (by decide) ((maxI_ok (wf_setLow (h := k5.wf)) ((hws k5).low _) (by simp) (by simp)).imp fun v s h => ⟨by rw [h.1]; exact Fr.refl (wf_setLow (h := k5.wf)), h.2⟩) fun v s6 k6 hv => ?_
    obtain ⟨b, rfl, hb1, hb2⟩ := hv
    have h6 := h5.trans k6
    have hn3 : st.next < s3.next := by have := hf.next; omega
    simp -implicitDefEqProofs (disch := first | decide | omega) [dL_low, e1, (k5.trans k6).rd p1]
    refine Rg.ret (hP _ _ ⟨_, rfl, h6, ?_⟩)
    simp only [leI_f]
    constructor
    · intro hlt
      refine ⟨g, hgi, hfm, fun _ => ⟨g2, hgj, fun j hj => ?_⟩⟩
      have e1 : a ≤ g2.w j := mem4 (f := g2.w) (p := (a ≤ ·)) ha' j hj
      have e2 : g2.w j ≤ b := mem4 (f := g2.w) (p := (· ≤ b)) hb2 j hj
      exact ⟨by omega, by omega⟩
    · intro hh
      exact (okn hh b hb1).2
  obtain ⟨b, rfl, k4, hb⟩ := h
  clear hP P
  have h4 := k3.trans k4
  have hfT := hf.trans h4
  have hbT : ∀ i y, (gC p)[i]? = some y → rd t st.next i = some y := fun i y hy => h4.rd (hbs i y hy)
  have hrT : ∀ i y, (gateC g)[i]? = some y → rd t s.next i = some y := fun i y hy => k4.rd ((hrow i).trans hy)
  have hoT := ho.fr h4
  have hDT := hD.fr h4
  refine Ru.cond rfl (fun h => no _ _ _ rfl hfT (hnoRow fun hh => by rw [hb.2 hh] at h; cases h)) fun h => Ru.skip ?_
  have hok := hb.1 h
  obtain ⟨g', h1, hfm, hnx⟩ := hok
  rw [hgi] at h1; cases h1
  have hrd : ∀ j, j < 4 → -1 ≤ g.w j ∧ g.w j < n ∧ (readsD g j = true → 0 ≤ g.w j) := fun j hj => by have := hfm.2.2.2.2.2.2 j hj; rwa [hn] at this
  have hbadW : (∃ k, k < 4 ∧ badK d g k) → ¬ ValidG p := fun hbk hh => by
    obtain ⟨d', h1, _⟩ := hh.walk
    have hw1 : walkD p.rows (d0L n k) (i + 1) = none := by
      show (walkD p.rows (d0L n k) i).bind _ = none
      rw [hwk]; exact stepD_bad hgi hbk
    rw [show (p.pub + p.sec).toNat = k by omega, show p.vars.toNat = n by omega, walk_none hw1 _ (by omega)] at h1
    cases h1
  refine Ru.rs fun P hP => Rg.ret (hP _ _ ?_)
  clear hP P
  have hgN' : rdN t s.next 0 11 = some (gateC g) := rdN_get rfl fun i x hx => by rw [Nat.zero_add]; exact hrT i x hx
  refine Ru.seq (Ru.rs fun P hP => ?_)
  simp -implicitDefEqProofs (disch := first | decide | omega) [hgN']
  refine Rg.call (reads_ok k4.wf g) fun v t1 hv => ?_
  obtain ⟨k1, rfl⟩ := hv
  refine Rg.ret (hP _ _ ?_)
  clear hP P
  have mr : ∀ j, j < 4 → [S.bool (readsD g 0), .bool (readsD g 1), .bool (readsD g 2), .bool (readsD g 3)][j]? = some (.bool (readsD g j)) := fun j hj => by
    rcases (show j = 0 ∨ j = 1 ∨ j = 2 ∨ j = 3 by omega) with rfl | rfl | rfl | rfl <;> rfl
  refine Ru.at (fun ρ => ρ q1 = .sc (.ptr st.next 0) ∧ ρ q4 = .sc (.slice id 0 n (some n) 1) ∧ ρ q74 = .sc p.sl ∧ ρ q75 = iv p.rows.length ∧ ρ q76 = iv i ∧ ρ q6 = iv i ∧ ρ q7 = .sc (.ptr s.next 0) ∧ ρ q123 = .agg [S.bool (readsD g 0), .bool (readsD g 1), .bool (readsD g 2), .bool (readsD g 3)] ∧ ρ q8 = iv 0 ∧ ρ q124 = iv 0) ⟨?_, ?_, ?_, ?_, ?_, rfl, rfl, rfl, rfl, rfl⟩ fun ρ0 hE => ?_
  · simp (disch := first | decide | omega) [e1]
  · simp (disch := first | decide | omega) [e4]
  · simp (disch := first | decide | omega) [e74]
  · simp (disch := first | decide | omega) [e75]
  · simp (disch := first | decide | omega) [e76]
  clear e1 e4 e74 e75 e76
  obtain ⟨e1, e4, e74, e75, e76, e6, e7, e123, e8, e124⟩ := hE
  refine Ru.block (Ru.lp [q1, q4, q74, q75, q76, q6, q7, q123] (fun j : Nat => 4 - j) (fun j ρ u => Fr t u ∧ j ≤ 4 ∧ ρ q8 = iv (mostK d g j) ∧ ρ q124 = iv j ∧ ∀ i, i < j → ¬ badK d g i)
    ⟨0, k1, by omega, e8, e124, fun i hi => by omega⟩ fun j ρ' u hk hI => ?_)
  clear e8 e124
  obtain ⟨ku, hj, e8, e124, hnb⟩ := hI
  refine Ru.rs fun P hP => ?_
  simp (disch := first | decide | omega) [e124]
  refine Rg.ret (hP _ _ ?_)
  clear hP P
  refine Ru.seq (Ru.cond rfl (fun h => Ru.skip ?_) fun h => Ru.exit ?_)
  · simp at h
    have hj4 : j < 4 := by omega
    have mw : ∀ {u}, Fr t u → rd u s.next (1 + j) = some (is (g.w j)) := fun k => k.rd (hrT (1 + j) (is (g.w j)) (by
      rcases (show j = 0 ∨ j = 1 ∨ j = 2 ∨ j = 3 by omega) with rfl | rfl | rfl | rfl <;> rfl))
    have m0 : ∀ {u}, Fr t u → rd u s.next 0 = some (bs g.kind) := fun k => k.rd (hrT 0 _ rfl)
    refine Ru.seq (Ru.block (Ru.rs fun P hP => ?_))
    simp (disch := first | decide | omega) [hk.e, e123, e124, idxV_sc _ _ _ hj4 (mr j hj4)]
    refine Rg.ret (hP _ _ ?_)
    clear hP P
    refine Ru.seq (Ru.rs fun P hP => ?_)
    simp (disch := first | decide | omega)
    refine Rg.ret (hP _ _ ?_)
    clear hP P
    have nxt : ∀ (Q' : X → Ev → St → Prop) (ρ : Ev) (u : St), Fr t u → Keep [q1, q4, q74, q75, q76, q6, q7, q123] ρ ρ0 → ρ q8 = iv (mostK d g (j + 1)) → ρ q124 = iv j → ¬ badK d g j →
       (∀ ρ u, (Keep [q1, q4, q74, q75, q76, q6, q7, q123] ρ ρ0 ∧ ∃ a', 4 - a' < 4 - j ∧ Fr t u ∧ a' ≤ 4 ∧ ρ q8 = iv (mostK d g a') ∧ ρ q124 = iv a' ∧ ∀ i, i < a' → ¬ badK d g i) → Q' .normal ρ u) →
       Ru (cF F) (.reg [q124] fun c r s K => binK .add (r q124) I1 fun v0 => K [v0] s) ρ u Q' := fun Q' ρ u ku hk e8 e124 hnj hQ' => by
      refine Ru.r1 fun P hP => ?_
      simp (disch := first | decide | omega) [e124]
      refine Rg.ret (hP _ _ (hQ' _ _ ⟨.up (by rfl) hk, j + 1, by omega, ku, by omega, ?_, rfl, fun i hi => ?_⟩))
      · simp (disch := first | decide | omega) [e8]
      · rcases (show i < j ∨ i = j by omega) with hij | rfl
        · exact hnb i hij
        · exact hnj
    refine Ru.cond rfl (fun h => Ru.exit ?_) fun h => Ru.skip ?_
    · simp at h
      simp only [Then, Out, if_true]
      refine nxt _ _ _ ku (by repeat first | exact hk | refine Keep.up (by rfl) ?_) ?_ ?_ (fun hh => by rw [hh.1] at h; cases h) fun _ _ h => h
      · simp (disch := first | decide | omega) [e8, mostK_no h]
      · simp (disch := first | decide | omega) [e124]
    · simp at h
      have hwj := hrd j hj4
      have hw0 := hwj.2.2 h
      have hdj : rd u id (g.w j).toNat = some (is (dat d (g.w j))) := dat_rd (hDT.fr ku) hdl hw0 hwj.2.1
      refine Ru.seq (Ru.rs fun P hP => ?_)
      simp -implicitDefEqProofs +contextual (disch := first | decide | omega) [-Bool.not_or, -Bool.not_and, hk.e, e4, e7, mw ku, m0 ku, hdj]
      refine Rg.ret (hP _ _ ?_)
      clear hP P
      refine Ru.cond rfl (fun h' => no _ _ _ rfl (hfT.trans ku) (hbadW ⟨j, hj4, ?_⟩)) fun h' => Ru.skip ?_
      · simp at h'
        exact ⟨h, h'.1, fun hh => by rcases h'.2 with h' | h' <;> omega⟩
      have hmn := mostK_nn d g j
      have hfill2 : ∀ (a b : Int) tm K, fillK tm K [(0, 1, .c (iv a)), (1, 1, .c (iv b))] [is 0, is 0] = K [is a, is b] := fun a b tm K => by
        rw [fill_sc _ _ _ _ _ _ (by simp), fill_sc _ _ _ _ _ _ (by simp [setRange]), fill_nil]; rfl
      refine Ru.r1 fun P hP => ?_
      simp -implicitDefEqProofs (disch := first | decide | omega) [hk.e, e4, e7, e8, mw ku, hdj, buildS_eq, hfill2]
      have f5 : Fr u (new u [is (mostK d g j), is (dat d (g.w j))]) := (Fr.refl ku.wf).new _
      have hl5 : RepI (new u [is (mostK d g j), is (dat d (g.w j))]) (.slice u.next 0 2 (some 2) 1) [mostK d g j, dat d (g.w j)] := Sat.new rfl fun m h => by cases h; exact Nat.le_refl _
      refine Rg.call (deepest_ok f5.wf hl5 (by simp)) fun v u2 hv => ?_
      obtain ⟨hu2, rfl⟩ := hv
      subst u2
      refine Rg.ret (hP _ _ ?_)
      clear hP P
      simp only [Then, Out]
      refine nxt _ _ _ (ku.trans f5) (by repeat first | exact hk | refine Keep.up (by rfl) ?_) ?_ ?_ (fun hh => ?_) fun _ _ h => h
      · have hmx : [mostK d g j, dat d (g.w j)].foldl max 0 = mostK d g (j + 1) := by
          rw [mostK_yes h]
          show max (max 0 (mostK d g j)) (dat d (g.w j)) = _
          omega
        rw [hmx]; rfl
      · simp (disch := first | decide | omega) [e124]
      · obtain ⟨_, h2, h3⟩ := hh
        simp at h'
        have h4 := h' h2
        exact h3 ⟨h4.1, by omega⟩
  simp at h
  have hj4 : j = 4 := by omega
  subst hj4
  simp only [Then, Out, if_true]
  refine Ru.rs fun P hP => Rg.ret (hP _ _ ?_)
  clear hP P
  have hfU := hfT.trans ku
  have hmle : mostK d g 4 ≤ i := mostK_le (walk_le (d0L_le n k) i d hwk) (by omega) g 4
  have hmge := mostK_nn d g 4
  have hwk1 : walkD p.rows (d0L n k) (i + 1) = some ((defsR p.rows i g).foldl (setR (mostK d g 4)) d) := by
    show (walkD p.rows (d0L n k) i).bind _ = _
    rw [hwk]; exact stepD_ok hgi hnb
  have hdefs : ∀ v ∈ defsR p.rows i g, 0 ≤ v ∧ v < n := fun v hv => by
    unfold defsR at hv
    split at hv
    · rename_i hk3
      obtain ⟨g2, h5, h6⟩ := hnx hk3
      rw [h5] at hv
      rw [hn] at h6
      simp at hv
      rcases hv with rfl | rfl | rfl | rfl
      · exact h6 0 (by omega)
      · exact h6 1 (by omega)
      · exact h6 2 (by omega)
      · exact h6 3 (by omega)
    · split at hv
      · rename_i hk3 hq3
        simp at hv
        subst hv
        have h2 := hrd 2 (by omega)
        have hk1 : g.kind = 1 := by
          rcases hfm.2.2.2.2.2.1 with h | h
          · exact h
          · exact absurd (h 3 (by omega)) hq3
        exact ⟨h2.2.2 (by simp [readsD, hk1, hq3]), h2.2.1⟩
      · cases hv
  have m0 : rd u s.next 0 = some (bs g.kind) := ku.rd (hrT 0 _ rfl)
  have m8 : rd u s.next 8 = some (us (g.q 3)) := ku.rd (hrT 8 _ rfl)
  have p4 : rd u st.next 4 = some p.sl := ku.rd (hbT 4 _ rfl)
  have hsid : s.next ≠ id := by omega
  refine Ru.seq (Ru.imp (Q := fun x ρ1 s1 => x = .normal ∧ s1 = u ∧ Keep [q1, q4, q74, q75, q76, q8] ρ1 ρ' ∧ ∃ y, ρ1 q11 = .sc y ∧ RepI u y (defsR p.rows i g) ∧ sid y ≠ some id) ?_ fun x ρ1 s1 hx => ?_)
  · refine Ru.block (Ru.rs fun P hP => ?_)
    simp -implicitDefEqProofs (disch := first | decide | omega) [hk.e, e7, m0]
    refine Rg.ret (hP _ _ ?_)
    clear hP P
    refine Ru.cond rfl (fun h => Ru.r1 fun P hP => ?_) fun h => Ru.rs fun P hP => ?_
    · simp at h
      obtain ⟨g2, hgj, hnw⟩ := hnx h
      obtain ⟨id2, o2, hix2, hc2, hsid2⟩ := elt (f := gateC) (z := 11) (fun _ => rfl) (hp.fr hfU) hgj
      have hix2' : ∀ K, ixs 11 (V.sc p.sl) (iv ((i : Int) + 1)) K = K (.sc (.ptr id2 o2)) := fun K => hix2 K
      have hsl : ∀ (c : CallK) (r : Ev) (K : V → St → R), h_op3_sliceA 4 1 (.c (.sc (.ptr id2 (o2 + 1)))) none none none c r u K = K (.sc (.slice id2 (o2 + 1) 4 (some 4) 1)) u := sliceA_ok (m := 3) (hc2 4 _ rfl)
      simp -implicitDefEqProofs (disch := first | decide | omega) [hk.e, e1, e6, p4, hix2', hsl]
      refine Rg.ret (hP _ _ ⟨rfl, rfl, by repeat first | exact Keep.refl _ _ | refine Keep.up (by rfl) ?_, _, rfl, ?_, ?_⟩)
      · have : defsR p.rows i g = [g2.w 0, g2.w 1, g2.w 2, g2.w 3] := by unfold defsR; rw [if_pos h, hgj]
        rw [this]
        exact sat_of_rd' (by decide) rfl (fun m h => by cases h; exact Nat.le_refl _) fun j x hx => by
          rw [Nat.add_assoc]
          refine hc2 (1 + j) x ?_
          have hj : j < 4 := by have := (List.getElem?_eq_some_iff.1 hx).1; simpa using this
          rcases (show j = 0 ∨ j = 1 ∨ j = 2 ∨ j = 3 by omega) with rfl | rfl | rfl | rfl <;> exact hx
      · obtain ⟨id3, o3, _, hc3, hsid3⟩ := elt (f := gateC) (z := 11) (fun _ => rfl) hp hgj
        have := Fr.lt hw (hc3 0 _ rfl)
        intro he
        cases he
        rw [hsid3] at hsid2
        cases hsid2; omega
    · simp at h
      simp -implicitDefEqProofs (disch := first | decide | omega) [hk.e, e7, m8]
      refine Rg.ret (hP _ _ ?_)
      clear hP P
      refine Ru.cond rfl (fun h' => Ru.r1 fun P hP => ?_) fun h' => Ru.skip ?_
      · simp at h'
        have hcut : ∀ (c : CallK) (r : Ev) (K : V → St → R), h_op3_sliceA 4 1 (.c (.sc (.ptr s.next 1))) (some (.c (iv 2))) (some (.c (iv 3))) none c r u K = K (.sc (.slice s.next 3 1 (some 2) 1)) u := sliceA_cut (m := 3) (lo := 2) (hi := 3) (ku.rd (hrT 4 _ rfl)) (by omega) (by omega) (by omega)
        simp -implicitDefEqProofs (disch := first | decide | omega) [hk.e, e7, hcut]
        refine Rg.ret (hP _ _ ⟨rfl, rfl, by repeat first | exact Keep.refl _ _ | refine Keep.up (by rfl) ?_, _, rfl, ?_, fun he => hsid (by cases he; rfl)⟩)
        have : defsR p.rows i g = [g.w 2] := by unfold defsR; rw [if_neg h, if_pos h']
        rw [this]
        refine sat_of_rd' (by decide) rfl (fun m h => by cases h; decide) fun j x hx => ?_
        have hj : j < 1 := by have := (List.getElem?_eq_some_iff.1 hx).1; simpa using this
        rcases (show j = 0 by omega) with rfl
        exact ku.rd (hrT 3 x hx)
      · simp at h'
        refine ⟨rfl, rfl, by repeat first | exact Keep.refl _ _ | refine Keep.up (by rfl) ?_, zn, rfl, ?_, fun h => by cases h⟩
        have : defsR p.rows i g = [] := by unfold defsR; rw [if_neg h, if_neg (by simp [h'])]
        rw [this]
        exact Sat.nil 1
  obtain ⟨rfl, hs1, hk2, y, e11, hy, hyid⟩ := hx
  subst s1
  simp only [Then]
  have hdl2 : (defsR p.rows i g).length < 1000000000 := by
    unfold defsR
    split
    · split <;> simp
    · split <;> simp
  refine defs_ok (d := d) ku.wf (by simp (disch := first | decide | omega) [hk2.e, hk.e, e4]) (by rw [hk2 q8 (by rfl)]; exact e8) e11 hy hyid (hoT.fr ku) (by have := ku.next; have := h4.next; omega) hdl (hDT.fr ku) hdefs hmge (by omega) hdl2 fun ρ2 u2 hk3 kp ho2 hn2 hD2 => ?_
  simp only [Then, Out]
  refine Ru.r1 fun P hP => ?_
  simp -implicitDefEqProofs (disch := first | decide | omega) [hk3.e, hk2.e, hk.e, e76]
  refine Rg.ret (hP _ _ ⟨i + 1, by omega, kp.fr hfU (fun id' h => by cases h; omega) hw, fun j y hy => kp.rd (by simp; omega) (ku.rd (hbT j y hy)), by have := ku.next; have := h4.next; omega, by omega, ?_, ?_, ?_, ?_, rfl, ho2, fun j hj => ?_, _, hwk1, by rw [foldR_len]; exact hdl, hD2⟩)
  · simp (disch := first | decide | omega) [hk3.e, hk2.e, hk.e, e1]
  · simp (disch := first | decide | omega) [hk3.e, hk2.e, hk.e, e4]
  · simp (disch := first | decide | omega) [hk3.e, hk2.e, hk.e, e74]
  · simp (disch := first | decide | omega) [hk3.e, hk2.e, hk.e, e75]
  · rcases (show j < i ∨ j = i by omega) with hij | rfl
    · exact hrows j hij
    · exact ⟨g, hgi, hfm, hnx⟩
end Go.Proofs.YticfndhcbjcklaaDoor.Ev
namespace Go.Proofs.YticfndhcbjcklaaDoor.Ev
set_option linter.unusedSimpArgs false
set_option linter.unusedVariables false
variable {st s t : St} {n i id off : Nat}
theorem valid_ok (hg : Glo st) (p : GatesD) (hp : RepRows st p.sl p.rows) (hlen : p.rows.length < 9223372036854775808) :
    Ca (cF F) 18 [.agg (gC p)] st (fun v s => Fr st s ∧ ∃ b, v = bl b ∧ (b = true ↔ ValidG p)) := by
  refine Ca.of (hf := cf18) rfl rfl [q0] [.tmp q2] rfl rfl rfl fun Q hQ => ?_
  have hw := hg.wf
  have f1 : Fr st (new st (gC p)) := (Fr.refl hw).new _
  have hb : rdN (new st (gC p)) st.next 0 5 = some (gC p) := rdN_get rfl fun i x hx => by rw [rd_new, if_pos rfl]; simpa using hx
  refine Ru.rs fun P hP => ?_
  simp -implicitDefEqProofs (disch := first | decide | omega)
  refine Rg.ret (hP _ _ ?_)
  clear hP P
  refine Ru.rs fun P hP => ?_
  simp -implicitDefEqProofs (disch := first | decide | omega) [hb]
  refine Rg.call (depths_ok (hg.fr f1) p (hp.fr f1) hlen) fun v s h => ?_
  obtain ⟨k, y, b, rfl, hb⟩ := h
  simp -implicitDefEqProofs (disch := first | decide | omega)
  refine Rg.ret (hP _ _ ?_)
  exact Ru.sreg (Rg.ret (Ru.ret (hQ _ _ (.one rfl ⟨f1.trans k, b, rfl, hb⟩))))
/-! the reference's: which wires a row reads, as a list -/
def readsL (g : GateD) : List Nat := (List.range 4).filter (readsD g)
def RepK (st : St) (y : S) (l : List Nat) : Prop := RepI st y (l.map fun k => ((k : Nat) : Int))
def RdJ (st s1 : St) (L : List Int) (ρ : Ev) (s : St) : Prop := Fr s1 s ∧ ρ q1 = .sc (.ptr st.next 0) ∧ ∃ y, ρ q3 = .sc y ∧ Sat s y L.length 1 (L.map is) ∧ Grw s1.next s y L.length 1
end Go.Proofs.YticfndhcbjcklaaDoor.Ev
namespace Go.Proofs.YticfndhcbjcklaaDoor.Ev
set_option linter.unusedSimpArgs false
set_option linter.unusedVariables false
variable {st s t : St} {n i id off : Nat}
end Go.Proofs.YticfndhcbjcklaaDoor.Ev
