/- What the listed package variables hold, and the evaluator's runs, by the kernel; no conditions. -/
import Derived.Test.YticfndhcbjcklaaDoorL
import Derived.Test.YticfndhcbjcklaaDoorEvD
import Derived.Test.YticfndhcbjcklaaDoorChecked
namespace Go.Proofs.YticfndhcbjcklaaDoor.Ev
set_option linter.unusedSimpArgs false
set_option linter.unusedVariables false
theorem holdsAll_fr {s t : St} (h : Fr s t) : ∀ {l : List (Nat × List S)}, holdsAll s.heap l = true → holdsAll t.heap l = true
  | [], _ => rfl
  | p :: r, hh => by
    have hh : (holds1 s.heap p && holdsAll s.heap r) = true := hh
    simp only [Bool.and_eq_true] at hh
    show (holds1 t.heap p && holdsAll t.heap r) = true
    rw [holdsAll_fr h hh.2, Bool.and_true]
    have h1 := hh.1
    unfold holds1 at h1 ⊢
    cases hb : s.heap.get p.1 with
    | none => rw [hb] at h1; cases h1
    | some b => rw [hb] at h1; rw [h.old _ _ hb]; exact h1
theorem lies_of {st : St} (hw : WfS st) (hh : holdsAll st.heap l0 = true) {x : Nat} (hx : x < 4) : ∃ l, Lies st 0 x (pC x) l := by
  have h1 := holdsAll_mem hh (List.mem_cons_self)
  unfold holds1 at h1
  split at h1
  · rename_i b hb
    split at h1
    · rename_i c hk hc
      have he := lEq_of h1
      obtain ⟨e1, e2⟩ := cellsAt_get hc
      have hr : ∀ i y, c[i]? = some y → rd st 0 i = some y := fun i y hy => by
        have h2 := e2 i y hy
        rw [Nat.zero_add] at h2
        unfold rd
        rw [show st.heap.get 0 = some b from hb]
        exact h2
      rw [he] at hr
      have main : ∃ l, rdN st 0 (x * 5) 5 = some (us (pC x) :: l) := by
        rcases (show x = 0 ∨ x = 1 ∨ x = 2 ∨ x = 3 by omega) with rfl | rfl | rfl | rfl
        all_goals exact ⟨_, rdN_get (l := [_, _, _, _, _]) rfl fun i y hy => by
          have hi : i < 5 := by have := (List.getElem?_eq_some_iff.1 hy).1; simpa using this
          rcases (show i = 0 ∨ i = 1 ∨ i = 2 ∨ i = 3 ∨ i = 4 by omega) with rfl | rfl | rfl | rfl | rfl <;> (cases hy; exact hr _ _ rfl)⟩
      obtain ⟨l, hl⟩ := main
      exact ⟨l, hw, hx, hl, pC_pos x, by have := pC_lt x; omega⟩
    · cases h1
  · cases h1
theorem glo_of {st : St} (hw : WfS st) (hh : holdsAll st.heap l0 = true) : Glo st := ⟨hw, fun x hx => lies_of hw hh hx⟩
theorem works_ok {st : St} (hh : holdsAll st.heap l0 = true) : Ca (cO l0 O0 F) 11 [] st (fun v s => v = bl true ∧ s = st) := Ca.known rfl hh
theorem law_ok {st : St} (hw : WfS st) (hh : holdsAll st.heap l0 = true) {x y z : S} {l : List GatesD} {a b : List NsD} (hl : RepGs st x l) (ha : RepLs st y a) (hb : RepLs st z b)
    (hlen : l.length < 9223372036854775808) (alen : a.length < 9223372036854775808) (blen : b.length < 9223372036854775808) (hr : ∀ g ∈ l, g.rows.length < 9223372036854775808) (a2 : ∀ e ∈ a, e.ns.length < 9223372036854775808) (b2 : ∀ e ∈ b, e.ns.length < 9223372036854775808)
    (Q : X → Ev → St → Prop) (hQ : ∀ ρ s', ρ q6 = bl true → Q .ret ρ s') :
    Ru (cO l0 O0 F) cf3.body (updE [q0, q1, q2] [.sc x, .sc y, .sc z] ev0) st Q := by
  refine Ru.rs fun P hP => Rg.ret (hP _ _ ?_)
  clear hP P
  refine Ru.rs fun P hP => ?_
  simp -implicitDefEqProofs (disch := first | decide | omega)
  refine Rg.call (Ca.none rfl (few_ok hw hl hlen)) fun v s h => ?_
  obtain ⟨k1, x2, L, rfl, hL, h24, h200⟩ := h
  refine Rg.call (Ca.none rfl (lists_ok k1.wf (ha.fr k1) alen a2)) fun v s2 h => ?_
  obtain ⟨k2, y2, A, rfl, hA, a30, a200⟩ := h
  have k12 := k1.trans k2
  refine Rg.call (Ca.none rfl (lists_ok k2.wf (hb.fr k12) blen b2)) fun v s3 h => ?_
  obtain ⟨k3, z2, B, rfl, hB, b30, b200⟩ := h
  have k13 := k12.trans k3
  refine Rg.ret (hP _ _ ?_)
  clear hP P
  have hrows : ∀ g ∈ L, g.rows.length < 9223372036854775808 := fun g hg => by have := (h200 g hg).2; omega
  refine Ru.rs fun P hP => ?_
  simp -implicitDefEqProofs (disch := first | decide | omega)
  refine Rg.call (Ca.none rfl (inputs_ok (glo_of k13.wf (holdsAll_fr k13 hh)) (hL.fr (k2.trans k3)) (hA.fr k3) hB h24 hrows a30 a200 b30 b200)) fun v s4 h => ?_
  obtain ⟨k4, p1, p2, e, rfl, he, ht, hf⟩ := h
  have k14 := k13.trans k4
  simp -implicitDefEqProofs (disch := first | decide | omega)
  refine Rg.ret (hP _ _ ?_)
  clear hP P
  refine Ru.rs fun P hP => ?_
  simp -implicitDefEqProofs (disch := first | decide | omega)
  refine Rg.call (Ca.none rfl (refInputs_ok (glo_of k14.wf (holdsAll_fr k14 hh)) (hL.fr ((k2.trans k3).trans k4)) (hA.fr (k3.trans k4)) (hB.fr k4) h24 hrows a30 a200 b30 b200)) fun v s5 h => ?_
  obtain ⟨k5, r1, r2, e', rfl, he', ht', hf'⟩ := h
  have k15 := k14.trans k5
  have hee : e' = e := by
    cases e <;> cases e' <;> simp_all
  subst hee
  simp -implicitDefEqProofs (disch := first | decide | omega)
  refine Rg.ret (hP _ _ ?_)
  clear hP P
  have hreps : ∃ n1 n2 : List Nat, RepN s5 p1 n1 ∧ RepN s5 p2 n2 ∧ RepN s5 r1 n1 ∧ RepN s5 r2 n2 ∧ n1.length < 9223372036854775808 ∧ n2.length < 9223372036854775808 := by
    cases e' with
    | true =>
      have hn1 := allNs_le a200
      have hn2 := allNs_le b200
      exact ⟨allNs A, allNs B, (ht rfl).1.fr k5, (ht rfl).2.fr k5, (ht' rfl).1, (ht' rfl).2, by omega, by omega⟩
    | false =>
      obtain ⟨rfl, rfl⟩ := hf rfl
      obtain ⟨rfl, rfl⟩ := hf' rfl
      exact ⟨[], [], Sat.nil 1, Sat.nil 1, Sat.nil 1, Sat.nil 1, by simp, by simp⟩
  obtain ⟨n1, n2, c1, c2, c3, c4, c5, c6⟩ := hreps
  refine Ru.rs fun P hP => ?_
  simp -implicitDefEqProofs (disch := first | decide | omega)
  refine Rg.call (Ca.none rfl (same_ok k5.wf c1 c3 c5)) fun v s6 h => ?_
  obtain ⟨hs6, rfl⟩ := h
  subst s6
  rw [decide_eq_true (rfl : n1 = n1)]
  simp -implicitDefEqProofs (disch := first | decide | omega)
  refine Rg.call (Ca.none rfl (same_ok k5.wf c2 c4 c6)) fun v s6 h => ?_
  obtain ⟨hs6, rfl⟩ := h
  subst s6
  rw [decide_eq_true (rfl : n2 = n2)]
  simp -implicitDefEqProofs (disch := first | decide | omega)
  refine Rg.call (works_ok (holdsAll_fr k15 hh)) fun v s6 h => ?_
  obtain ⟨rfl, hs6⟩ := h
  subst s6
  exact Rg.ret (hP _ _ (Ru.ret (hQ _ _ rfl)))
theorem runs_open {st : St} (hw : WfS st) (hh : holdsAll st.heap l0 = true) {x y z : S} {l : List GatesD} {a b : List NsD} (hl : RepGs st x l) (ha : RepLs st y a) (hb : RepLs st z b)
    (hlen : l.length < 9223372036854775808) (alen : a.length < 9223372036854775808) (blen : b.length < 9223372036854775808) (hr : ∀ g ∈ l, g.rows.length < 9223372036854775808) (a2 : ∀ e ∈ a, e.ns.length < 9223372036854775808) (b2 : ∀ e ∈ b, e.ns.length < 9223372036854775808) :
    ∃ k, callK F (runO l0 O0 F k) 3 [.sc x, .sc y, .sc z] st saysTrue = .done .normal .leaf ⟨.leaf, 0, 0⟩ := by
  obtain ⟨x', t, s', ⟨rfl, h1⟩, n, h2⟩ := law_ok hw hh hl ha hb hlen alen blen hr a2 b2 (fun x ρ s' => x = .ret ∧ ρ q6 = bl true) (fun ρ s' h => ⟨rfl, h⟩) (setLp [q0, q1, q2] [.sc x, .sc y, .sc z] .leaf) (by rw [rho_setLp, rho_leaf])
  refine ⟨n, ?_⟩
  show setL [q0, q1, q2] [.sc x, .sc y, .sc z] .leaf (fun tm => retK cf3.results saysTrue (runO l0 O0 F n cf3.body tm st)) = _
  rw [setL_eq', ← runC_O, h2 n (Nat.le_refl _)]
  show fin1 saysTrue s' [rho t q6] = _
  rw [h1]; rfl
end Go.Proofs.YticfndhcbjcklaaDoor.Ev
namespace Go.Proofs.YticfndhcbjcklaaDoor.Ev
open Go.RowKit Go.Proofs Go.ChangeShapes Go.WideShapes
set_option linter.unusedSimpArgs false
set_option linter.unusedVariables false
abbrev gateTy : Ty := .pair .u8 (.pair (.pair .i64 (.pair .i64 (.pair .i64 (.pair .i64 .unit)))) (.pair .u64 (.pair .u64 (.pair .u64 (.pair .u64 (.pair .u64 (.pair .i64 .unit)))))))
abbrev gatesTy : Ty := .pair .i64 (.pair .i64 (.pair .i64 (.pair .i64 (.pair (.slice gateTy) .unit))))
theorem ty22 : tyOf Tryd.prog 9 22 = some (.slice gatesTy) := by kernel_rfl
theorem ty23 : tyOf Tryd.prog 9 23 = some (.slice (.slice .u64)) := by kernel_rfl
theorem gate_of {st : St} {le : List S} {y : gateTy.den} (h : RepTy gateTy st le y) : ∃ g : GateD, le = gateC g ∧ True := by
  obtain ⟨k, ⟨w0, w1, w2, w3, u1⟩, a0, a1, a2, a3, a4, r, u2⟩ := y
  obtain ⟨l0, l1, rfl, h0, l2, l3, rfl, h1, h2⟩ := h
  obtain ⟨m0, m1, rfl, e0, m2, m3, rfl, e1, m4, m5, rfl, e2, m6, m7, rfl, e3, e4⟩ := h1
  obtain ⟨b0, b1, rfl, f0, b2, b3, rfl, f1, b4, b5, rfl, f2, b6, b7, rfl, f3, b8, b9, rfl, f4, b10, b11, rfl, f5, f6⟩ := h2
  have h0 : Ru8 l0 k := h0
  have e0 : Ri64 m0 w0 := e0
  have e1 : Ri64 m2 w1 := e1
  have e2 : Ri64 m4 w2 := e2
  have e3 : Ri64 m6 w3 := e3
  have e4 : m7 = [] := e4
  have f0 : Ru64 b0 a0 := f0
  have f1 : Ru64 b2 a1 := f1
  have f2 : Ru64 b4 a2 := f2
  have f3 : Ru64 b6 a3 := f3
  have f4 : Ru64 b8 a4 := f4
  have f5 : Ri64 b10 r := f5
  have f6 : b11 = [] := f6
  refine ⟨⟨k, fun i => ([w0, w1, w2, w3] : List Int).getD i 0, fun i => ([a0, a1, a2, a3, a4] : List Nat).getD i 0, r⟩, ?_, trivial⟩
  rw [h0.1, e0.1, e1.1, e2.1, e3.1, e4, f0.1, f1.1, f2.1, f3.1, f4.1, f5.1, f6]
  rfl
theorem gates_of {st : St} {le : List S} {y : gatesTy.den} (h : RepTy gatesTy st le y) : ∃ g : GatesD, le = gC g ∧ RepRows st g.sl g.rows ∧ g.rows.length < 9223372036854775808 := by
  obtain ⟨a, b, c, d, rs, u⟩ := y
  obtain ⟨l0, l1, rfl, h0, l2, l3, rfl, h1, l4, l5, rfl, h2, l6, l7, rfl, h3, l8, l9, rfl, h4, h5⟩ := h
  have h0 : Ri64 l0 a := h0
  have h1 : Ri64 l2 b := h1
  have h2 : Ri64 l4 c := h2
  have h3 : Ri64 l6 d := h3
  have h4 : SlRep gateTy.z (RepTy gateTy) st l8 rs := h4
  have h5 : l9 = [] := h5
  obtain ⟨s, bs, rfl, e1, e2, e3, _⟩ := h4.conv (f := gateC) (G := fun _ => True) (by decide) fun le y _ h => gate_of h
  refine ⟨⟨a, b, c, d, bs, s⟩, ?_, e3, Nat.lt_of_le_of_lt e2 (by decide)⟩
  rw [h0.1, h1.1, h2.1, h3.1, h5]
  rfl
theorem gs_of {st : St} {l : List S} {y : (Ty.slice gatesTy).den} (h : RepTy (.slice gatesTy) st l y) : ∃ s L, l = [s] ∧ RepGs st s L ∧ L.length < 9223372036854775808 ∧ ∀ g ∈ L, g.rows.length < 9223372036854775808 := by
  have h : SlRep gatesTy.z (RepTy gatesTy) st l y := h
  obtain ⟨s, bs, rfl, e1, e2, e3, e4⟩ := h.conv (f := gC) (G := fun g => RepRows st g.sl g.rows ∧ g.rows.length < 9223372036854775808) (by decide) fun le y _ h => gates_of h
  exact ⟨s, bs, rfl, ⟨e3, fun g hg => (e4 g hg).1⟩, Nat.lt_of_le_of_lt e2 (by decide), fun g hg => (e4 g hg).2⟩
theorem ns_of {st : St} {l : List S} {y : (Ty.slice .u64).den} (h : RepTy (.slice .u64) st l y) : ∃ s, ∃ L : List Nat, l = [s] ∧ RepN st s L ∧ L.length < 9223372036854775808 := by
  have h : SlRep 1 (RepTy .u64) st l y := h
  obtain ⟨s, bs, rfl, e1, e2, e3, e4⟩ := h.conv (f := fun n : Nat => [us n]) (G := fun _ => True) (by decide) fun le y _ h => ⟨y, (show Ru64 le y from h).1, trivial⟩
  exact ⟨s, bs, rfl, by unfold RepN; rw [map_flat]; exact e3, Nat.lt_of_le_of_lt e2 (by decide)⟩
theorem ls_of {st : St} {l : List S} {y : (Ty.slice (.slice .u64)).den} (h : RepTy (.slice (.slice .u64)) st l y) : ∃ s L, l = [s] ∧ RepLs st s L ∧ L.length < 9223372036854775808 ∧ ∀ e ∈ L, e.ns.length < 9223372036854775808 := by
  have h : SlRep 1 (RepTy (.slice .u64)) st l y := h
  obtain ⟨s, bs, rfl, e1, e2, e3, e4⟩ := h.conv (f := fun e : NsD => [e.sl]) (G := fun e => RepN st e.sl e.ns ∧ e.ns.length < 9223372036854775808) (by decide) fun le y _ h => by
    obtain ⟨s, L, rfl, h1, h2⟩ := ns_of h
    exact ⟨⟨L, s⟩, rfl, h1, h2⟩
  exact ⟨s, bs, rfl, ⟨by rw [map_flat]; exact e3, fun e he => (e4 e he).1⟩, Nat.lt_of_le_of_lt e2 (by decide), fun e he => (e4 e he).2⟩
end Go.Proofs.YticfndhcbjcklaaDoor.Ev
