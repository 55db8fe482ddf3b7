/- What the listed package variables hold, and the evaluator's runs, by the kernel; no conditions. -/
import Derived.Test.YtphindkhkcncdaaDoorMb
import Derived.Test.YtphindkhkcncdaaDoorL
import Derived.Test.YtphindkhkcncdaaDoorEvD
import Derived.Test.YtphindkhkcncdaaDoorChecked
namespace Go.Proofs.YtphindkhkcncdaaDoor.Ev
set_option linter.unusedSimpArgs false
set_option linter.unusedVariables false
theorem holdsAll_fr {s t : St} (h : Fr s t) : ∀ {l : List (Nat × List S)}, holdsAll s.heap l = true → holdsAll t.heap l = true
  | [], _ => rfl
  | p :: r, hh => by
    have hh : (holds1 s.heap p && holdsAll s.heap r) = true := hh
    simp only [Bool.and_eq_true] at hh
    show (holds1 t.heap p && holdsAll t.heap r) = true
    rw [holdsAll_fr h hh.2, Bool.and_true]
    have h1 := hh.1
    unfold holds1 at h1 ⊢
    cases hb : s.heap.get p.1 with
    | none => rw [hb] at h1; cases h1
    | some b => rw [hb] at h1; rw [h.old _ _ hb]; exact h1
theorem lives_ok {st : St} (hh : holdsAll st.heap l0 = true) : Ca (cO l0 O0 F) 8 [] st (fun v s => v = bl true ∧ s = st) := Ca.known rfl hh
theorem law_ok {st : St} (hw : WfS st) (hh : holdsAll st.heap l0 = true) {p x : S} {l : List NsD} (hl : RepLs st x l)
    (hlen : l.length < 9223372036854775808) (hlen2 : ∀ e ∈ l, e.ns.length < 9223372036854775808)
    (Q : X → Ev → St → Prop) (hQ : ∀ ρ s', ρ q2 = bl true → Q .ret ρ s') :
    Ru (cO l0 O0 F) cf3.body (updE [q0] [.agg [p, x]] ev0) st Q := by
  have f1 : Fr st (new st [p, x]) := (Fr.refl hw).new _
  have b1 : Bx (new st [p, x]) st.next [p, x] := Bx.new
  refine Ru.rs fun P hP => ?_
  simp -implicitDefEqProofs (disch := first | decide | omega)
  refine Rg.ret (hP _ _ ?_)
  clear hP P
  have hn1 : st.next < (new st [p, x]).next := by simp
  generalize new st [p, x] = s1 at *
  refine Ru.rs fun P hP => ?_
  simp -implicitDefEqProofs (disch := first | decide | omega) [b1.N (n := 2) rfl]
  refine Rg.call (Ca.none rfl (small_ok f1.wf (hl.fr f1) hlen hlen2)) fun v s2 h => ?_
  obtain ⟨k2, y, L, rfl, hL, h60, hyi, hgi⟩ := h
  have b2 := b1.fr k2
  have hst : ∀ K : St → R, Ev.sto s2 2 (.sc (.ptr st.next 0)) (.agg [p, y]) K = K (wr s2 st.next 0 [p, y]) := fun K => b2.stoN (n := 2) rfl rfl K
  simp -implicitDefEqProofs (disch := first | decide | omega) [hst]
  refine Rg.ret (hP _ _ ?_)
  clear hP P hst
  have kw := b2.kpw k2.wf (i := 0) [p, y]
  have b3 := b2.setN (l' := [p, y]) rfl
  have k13 := kw.fr (f1.trans k2) (fun id h => by cases h; exact Nat.le_refl _) hw
  have hL3 : RepLs (wr s2 st.next 0 [p, y]) y L := ⟨hL.sat.keep kw fun id h he => by cases h; have := hyi _ he; omega, fun g hg => (hL.ns g hg).keep kw fun id h he => by cases h; have := (hgi g hg).2 _ he; omega⟩
  clear kw b2 hL b1 hyi
  generalize wr s2 st.next 0 [p, y] = s3 at *
  have h40 : ∀ g ∈ L, g.ns.length ≤ 40 := fun g hg => (hgi g hg).1
  refine Ru.rs fun P hP => ?_
  simp -implicitDefEqProofs (disch := first | decide | omega) [b3.N (n := 2) rfl]
  refine Rg.call (Ca.none rfl (read_ok k13.wf hL3 h60 h40)) fun v s4 h => ?_
  obtain ⟨k4, hr1⟩ := h
  obtain ⟨y1, e1, hv1, hr1'⟩ := id hr1
  subst hv1
  simp -implicitDefEqProofs (disch := first | decide | omega)
  refine Rg.ret (hP _ _ ?_)
  clear hP P
  have b4 := b3.fr k4
  refine Ru.rs fun P hP => ?_
  simp -implicitDefEqProofs (disch := first | decide | omega) [b4.N (n := 2) rfl]
  have k14 := k13.trans k4
  refine Rg.call (Ca.none rfl (refRead_ok k14.wf (hL3.fr k4) h60 h40)) fun v s5 h => ?_
  obtain ⟨k5, hr2⟩ := h
  have h40' : nOf L ≤ 40 := by
    unfold nOf
    rw [List.getD_eq_getElem?_getD]
    cases h0 : L[0]? with
    | none => simp
    | some g => exact h40 g (List.mem_of_getElem? h0)
  obtain ⟨z1, z2, e, n, hv1, hv2, hn, hs1, hs2⟩ := read_same hr1 hr2 k5 h40'
  subst hv2
  cases hv1
  clear hr1 hr1' hr2
  simp -implicitDefEqProofs (disch := first | decide | omega)
  refine Rg.ret (hP _ _ ?_)
  clear hP P
  have k15 := k14.trans k5
  refine Ru.rs fun P hP => ?_
  simp -implicitDefEqProofs (disch := first | decide | omega)
  refine Rg.call (Ca.none rfl (same_ok k15.wf hs1 hs2 (by omega))) fun v s6 h => ?_
  obtain ⟨hs6, rfl⟩ := h
  subst s6
  simp -implicitDefEqProofs (disch := first | decide | omega)
  refine Rg.call (lives_ok (holdsAll_fr k15 hh)) fun v s6 h => ?_
  obtain ⟨rfl, hs6⟩ := h
  subst s6
  exact Rg.ret (hP _ _ (Ru.ret (hQ _ _ rfl)))
theorem runs_open {st : St} (hw : WfS st) (hh : holdsAll st.heap l0 = true) {p x : S} {l : List NsD} (hl : RepLs st x l)
    (hlen : l.length < 9223372036854775808) (hlen2 : ∀ e ∈ l, e.ns.length < 9223372036854775808) :
    ∃ k, callK F (runO l0 O0 F k) 3 [.agg [p, x]] st saysTrue = .done .normal .leaf ⟨.leaf, 0, 0⟩ := by
  obtain ⟨x', t, s', ⟨rfl, h1⟩, n, h2⟩ := law_ok hw hh hl hlen hlen2 (fun x ρ s' => x = .ret ∧ ρ q2 = bl true) (fun ρ s' h => ⟨rfl, h⟩) (setLp [q0] [.agg [p, x]] .leaf) (by rw [rho_setLp, rho_leaf])
  refine ⟨n, ?_⟩
  show setL [q0] [.agg [p, x]] .leaf (fun tm => retK cf3.results saysTrue (runO l0 O0 F n cf3.body tm st)) = _
  rw [setL_eq', ← runC_O, h2 n (Nat.le_refl _)]
  show fin1 saysTrue s' [rho t q2] = _
  rw [h1]; rfl
end Go.Proofs.YtphindkhkcncdaaDoor.Ev
namespace Go.Proofs.YtphindkhkcncdaaDoor.Ev
open Go.RowKit Go.Proofs Go.ChangeShapes Go.WideShapes
set_option linter.unusedSimpArgs false
set_option linter.unusedVariables false
abbrev traceTy : Ty := .pair (.slice .u64) (.pair (.slice (.slice .u64)) .unit)
theorem ty25 : tyOf Tryd.prog 9 25 = some traceTy := by kernel_rfl
theorem ns_of {st : St} {l : List S} {y : (Ty.slice .u64).den} (h : RepTy (.slice .u64) st l y) : ∃ s, ∃ L : List Nat, l = [s] ∧ RepN st s L ∧ L.length < 9223372036854775808 := by
  have h : SlRep 1 (RepTy .u64) st l y := h
  obtain ⟨s, bs, rfl, e1, e2, e3, e4⟩ := h.conv (f := fun n : Nat => [us n]) (G := fun _ => True) (by decide) fun le y _ h => ⟨y, (show Ru64 le y from h).1, trivial⟩
  exact ⟨s, bs, rfl, by unfold RepN; rw [map_flat]; exact e3, Nat.lt_of_le_of_lt e2 (by decide)⟩
theorem ls_of {st : St} {l : List S} {y : (Ty.slice (.slice .u64)).den} (h : RepTy (.slice (.slice .u64)) st l y) : ∃ s L, l = [s] ∧ RepLs st s L ∧ L.length < 9223372036854775808 ∧ ∀ e ∈ L, e.ns.length < 9223372036854775808 := by
  have h : SlRep 1 (RepTy (.slice .u64)) st l y := h
  obtain ⟨s, bs, rfl, e1, e2, e3, e4⟩ := h.conv (f := fun e : NsD => [e.sl]) (G := fun e => RepN st e.sl e.ns ∧ e.ns.length < 9223372036854775808) (by decide) fun le y _ h => by
    obtain ⟨s, L, rfl, h1, h2⟩ := ns_of h
    exact ⟨⟨L, s⟩, rfl, h1, h2⟩
  exact ⟨s, bs, rfl, ⟨by rw [map_flat]; exact e3, fun e he => (e4 e he).1⟩, Nat.lt_of_le_of_lt e2 (by decide), fun e he => (e4 e he).2⟩
theorem trace_of {st : St} {l : List S} {y : traceTy.den} (h : RepTy traceTy st l y) : ∃ p x L, l = [p, x] ∧ RepLs st x L ∧ L.length < 9223372036854775808 ∧ ∀ e ∈ L, e.ns.length < 9223372036854775808 := by
  obtain ⟨a, b, u⟩ := y
  obtain ⟨l0, l1, rfl, h0, l2, l3, rfl, h1, h2⟩ := h
  obtain ⟨p, _, rfl, _, _⟩ := ns_of (show RepTy (.slice .u64) st l0 a from h0)
  obtain ⟨x, L, rfl, hx, e1, e2⟩ := ls_of (show RepTy (.slice (.slice .u64)) st l2 b from h1)
  have h2 : l3 = [] := h2
  subst h2
  exact ⟨p, x, L, rfl, hx, e1, e2⟩
end Go.Proofs.YtphindkhkcncdaaDoor.Ev
