/- What the listed package variables hold, and the evaluator's runs, by the kernel; no conditions. -/
import Derived.Test.YticfndhcbjcklaaDoorE
import Derived.Test.YticfndhcbjcklaaDoorEvD
namespace Go.Proofs.YticfndhcbjcklaaDoor.Ev
set_option linter.unusedSimpArgs false
set_option linter.unusedVariables false
/-! gate programs in memory -/
structure GateD where
  kind : Nat
  w : Nat → Int
  q : Nat → Nat
  round : Int
structure GatesD where
  field : Int
  vars : Int
  pub : Int
  sec : Int
  rows : List GateD
  sl : S
structure NsD where
  ns : List Nat
  sl : S
abbrev gateC (g : GateD) : List S := [bs g.kind, is (g.w 0), is (g.w 1), is (g.w 2), is (g.w 3), us (g.q 0), us (g.q 1), us (g.q 2), us (g.q 3), us (g.q 4), is g.round]
abbrev gC (g : GatesD) : List S := [is g.field, is g.vars, is g.pub, is g.sec, g.sl]
def RepRows (st : St) (s : S) (l : List GateD) : Prop := Sat st s l.length 11 (l.flatMap gateC)
structure RepGs (st : St) (s : S) (l : List GatesD) : Prop where
  sat : Sat st s l.length 5 (l.flatMap gC)
  rows : ∀ g, g ∈ l → RepRows st g.sl g.rows
def RepN (st : St) (s : S) (l : List Nat) : Prop := Sat st s l.length 1 (l.map us)
structure RepLs (st : St) (s : S) (l : List NsD) : Prop where
  sat : Sat st s l.length 1 (l.map NsD.sl)
  ns : ∀ x, x ∈ l → RepN st x.sl x.ns
variable {st s t : St} {n i : Nat}
theorem RepGs.fr {x : S} {l : List GatesD} (h : RepGs s x l) (k : Fr s t) : RepGs t x l := ⟨h.sat.fr k, fun g hg => (h.rows g hg).fr k⟩
theorem RepLs.fr {x : S} {l : List NsD} (h : RepLs s x l) (k : Fr s t) : RepLs t x l := ⟨h.sat.fr k, fun g hg => (h.ns g hg).fr k⟩
/-- an element of a list -/
theorem flat_get {α : Type} {f : α → List S} {z : Nat} (hf : ∀ a, (f a).length = z) : ∀ {l : List α} {i : Nat} {a : α}, l[i]? = some a → ∀ j y, (f a)[j]? = some y → (l.flatMap f)[i * z + j]? = some y
  | [], i, a, h, j, y, hy => by simp at h
  | b :: l, 0, a, h, j, y, hy => by
    simp at h; subst h
    have hj := (List.getElem?_eq_some_iff.1 hy).1
    rw [List.flatMap_cons, Nat.zero_mul, Nat.zero_add, List.getElem?_append_left hj]; exact hy
  | b :: l, i + 1, a, h, j, y, hy => by
    rw [List.flatMap_cons, List.getElem?_append_right (by rw [hf, Nat.succ_mul]; omega), hf, show (i + 1) * z + j - z = i * z + j by rw [Nat.succ_mul]; omega]
    exact flat_get hf (by simpa using h) j y hy
theorem elt {α : Type} {f : α → List S} {z : Nat} {x : S} {l : List α} {a : α} (hf : ∀ a, (f a).length = z) (h : Sat st x l.length z (l.flatMap f)) (hi : l[i]? = some a) :
    ∃ id o, (∀ K, ixs z (.sc x) (iv i) K = K (.sc (.ptr id o))) ∧ (∀ j y, (f a)[j]? = some y → rd st id (o + j) = some y) ∧ sid x = some id := by
  have hlt := (List.getElem?_eq_some_iff.1 hi).1
  obtain ⟨id, off, c, rfl, hr⟩ := h.rd (by omega)
  refine ⟨id, off + i * z, fun K => ?_, fun j y hy => ?_, rfl⟩
  · rw [ixs_eq _ _ (by omega) (by omega)]; simp
  · rw [Nat.add_assoc]; exact hr _ _ (flat_get hf hi j y hy)
theorem map_flat {α : Type} (f : α → S) : ∀ l : List α, l.map f = l.flatMap fun a => [f a]
  | [] => rfl
  | a :: l => by rw [List.map_cons, List.flatMap_cons, map_flat f l]; rfl
theorem elt1 {α : Type} {f : α → S} {x : S} {l : List α} {a : α} (h : Sat st x l.length 1 (l.map f)) (hi : l[i]? = some a) :
    ∃ id o, (∀ K, ixs 1 (.sc x) (iv i) K = K (.sc (.ptr id o))) ∧ rd st id o = some (f a) ∧ sid x = some id := by
  rw [map_flat] at h
  obtain ⟨id, o, h1, h2, h3⟩ := elt (f := fun a => [f a]) (z := 1) (fun _ => rfl) h hi
  exact ⟨id, o, h1, h2 0 _ rfl, h3⟩
/-! few -/
end Go.Proofs.YticfndhcbjcklaaDoor.Ev
namespace Go.Proofs.YticfndhcbjcklaaDoor.Ev
set_option linter.unusedSimpArgs false
set_option linter.unusedVariables false
variable {st s t : St} {n i : Nat}
end Go.Proofs.YticfndhcbjcklaaDoor.Ev
namespace Go.Proofs.YticfndhcbjcklaaDoor.Ev
set_option linter.unusedSimpArgs false
set_option linter.unusedVariables false
variable {st s t : St} {n i : Nat}
/-! looking through lists of numbers -/
def RepI (st : St) (s : S) (l : List Int) : Prop := Sat st s l.length 1 (l.map is)
theorem index_ok (hw : WfS st) {x : S} {a : List Int} (ha : RepI st x a) (hlen : a.length < 9223372036854775808) (v : Int) :
    Ca (cF F) 53 [.sc x, iv v] st (fun w s => s = st ∧ w = bl (decide (v ∈ a))) := by
  have h66 : Ca (cF F) 66 [.sc x, iv v] st (fun w s => s = st ∧ ∃ k : Int, w = iv k ∧ (0 ≤ k ↔ v ∈ a)) := by
    refine Ca.of (hf := cf66) rfl rfl [q0, q1] [.tmp q4] rfl rfl rfl fun Q hQ => ?_
    refine Ru.sreg (Rg.ret (Ru.seq (Ru.sreg ?_)))
    simp (disch := first | decide | omega) [lnS_sat ha]
    refine Rg.ret ?_
    refine Ru.block (Ru.loop (fun i : Nat => a.length - i) (fun i ρ s => s = st ∧ i ≤ a.length ∧ ρ q0 = .sc x ∧ ρ q1 = iv v ∧ ρ q7 = iv a.length ∧ ρ q8 = iv i ∧ v ∉ a.take i)
      ⟨0, rfl, Nat.zero_le _, rfl, rfl, rfl, rfl, by simp⟩ fun i ρ s' hI => ?_)
    obtain ⟨rfl, hi, e0, e1, e7, e8, ht⟩ := hI
    refine Ru.sreg ?_
    simp (disch := first | decide | omega) [e7, e8]
    refine Rg.ret (Ru.seq (Ru.cond rfl (fun h => ?_) fun h => Ru.exit ?_))
    rotate_left
    · simp at h
      simp only [Then, Out, if_true]
      refine Ru.sreg (Rg.ret (Ru.ret (hQ _ _ (.one rfl ⟨rfl, -1, rfl, ?_⟩))))
      have : i = a.length := by omega
      subst this
      rw [List.take_length] at ht
      exact ⟨fun h => by omega, fun h => absurd h ht⟩
    simp at h
    have hlt : i < a.length := by omega
    have hgi := List.getElem?_eq_getElem hlt
    have hm := List.getElem_mem hlt
    generalize a[i] = p at hgi hm
    obtain ⟨id1, o1, hx1, hc1, _⟩ := elt1 ha hgi
    refine Ru.skip (Ru.seq (Ru.block (Ru.sreg (Rg.ret (Ru.sreg ?_)))))
    simp (disch := first | decide | omega) [e0, e1, e8, hx1, hc1]
    refine Rg.ret (Ru.cond rfl (fun h => ?_) fun h => ?_)
    · simp at h
      subst h
      refine Ru.sreg (Rg.ret (Ru.ret (hQ _ _ (.one (by simp (disch := first | decide | omega) [e8]) ⟨rfl, i, rfl, ?_⟩))))
      exact ⟨fun _ => hm, fun _ => by omega⟩
    · simp at h
      refine Ru.skip ?_
      show Ru (cF F) (.reg _ _) _ _ _
      refine Ru.reg ?_
      simp (disch := first | decide | omega) [e8]
      refine Rg.ret ⟨i + 1, by omega, rfl, by omega, ?_, ?_, ?_, rfl, ?_⟩
      · simp (disch := first | decide | omega) [e0]
      · simp (disch := first | decide | omega) [e1]
      · simp (disch := first | decide | omega) [e7]
      · rw [List.take_add_one, hgi]
        intro hh
        rcases List.mem_append.1 hh with hh | hh
        · exact ht hh
        · simp at hh; exact h hh
  refine Ca.of (hf := cf53) rfl rfl [q0, q1] [.tmp q4] rfl rfl rfl fun Q hQ => ?_
  refine Ru.sreg (Rg.ret (Ru.sreg ?_))
  simp (disch := first | decide | omega)
  refine Rg.call h66 fun w s h => ?_
  obtain ⟨rfl, k, rfl, hk⟩ := h
  simp (disch := first | decide | omega)
  refine Rg.ret (Ru.ret (hQ _ _ (.one rfl ⟨rfl, ?_⟩)))
  rw [show decide (v ∈ a) = decide (0 ≤ k) from (decide_eq_decide.2 hk).symm]; rfl
end Go.Proofs.YticfndhcbjcklaaDoor.Ev
namespace Go.Proofs.YticfndhcbjcklaaDoor.Ev
set_option linter.unusedSimpArgs false
set_option linter.unusedVariables false
variable {st s t : St} {n i : Nat}
theorem maxI_ok (hw : WfS st) {x : S} {a : List Int} (ha : RepI st x a) (hlen : a.length < 9223372036854775808) (h0 : 0 < a.length) :
    Ca (cF F) 50 [.sc x] st (fun w s => s = st ∧ ∃ k : Int, w = iv k ∧ k ∈ a ∧ ∀ y ∈ a, y ≤ k) := by
  refine Ca.of (hf := cf50) rfl rfl [q0] [.tmp q2] rfl rfl rfl fun Q hQ => ?_
  refine Ru.sreg (Rg.ret (Ru.seq (Ru.sreg ?_)))
  simp (disch := first | decide | omega) [lnS_sat ha]
  have hd : decide ((a.length : Int) < 1) = false := by simp; omega
  rw [hd]
  refine Rg.ret (Ru.cond rfl (fun h => by cases h) fun h => Ru.skip (Ru.sreg ?_))
  have hg0 := List.getElem?_eq_getElem h0
  have hm0 := List.getElem_mem h0
  generalize a[0] = a0 at hg0 hm0
  obtain ⟨id0, o0, hx0, hc0, _⟩ := elt1 ha hg0
  have hx0' : ∀ K, ixs 1 (V.sc x) (iv 0) K = K (.sc (.ptr id0 o0)) := fun K => hx0 K
  simp (disch := first | decide | omega) [hx0', hc0]
  refine Rg.ret (Ru.seq (Ru.sreg (Rg.ret ?_)))
  refine Ru.block (Ru.loop (fun i : Nat => a.length - i) (fun i ρ s => s = st ∧ i ≤ a.length ∧ 0 < i ∧ ρ q0 = .sc x ∧ ρ q4 = iv i ∧ ∃ k : Int, ρ q3 = iv k ∧ k ∈ a ∧ ∀ y ∈ a.take i, y ≤ k)
    ⟨1, rfl, h0, by decide, rfl, rfl, a0, rfl, hm0, fun y hy => ?_⟩ fun i ρ s' hI => ?_)
  · rw [List.take_one, List.head?_eq_getElem?, hg0] at hy
    simp at hy; omega
  obtain ⟨rfl, hi, hi0, e0, e4, k, e3, hk, ht⟩ := hI
  refine Ru.seq (Ru.sreg ?_)
  simp (disch := first | decide | omega) [e0, e4, lnS_sat ha]
  refine Rg.ret (Ru.cond rfl (fun h => ?_) fun h => Ru.exit ?_)
  rotate_left
  · simp at h
    simp only [Then, Out, if_true]
    have : i = a.length := by omega
    subst this
    rw [List.take_length] at ht
    exact Ru.sreg (Rg.ret (Ru.ret (hQ _ _ (.one (by simp (disch := first | decide | omega) [e3]) ⟨rfl, k, rfl, hk, ht⟩))))
  simp at h
  have hlt : i < a.length := by omega
  have hgi := List.getElem?_eq_getElem hlt
  have hm := List.getElem_mem hlt
  generalize a[i] = p at hgi hm
  obtain ⟨id1, o1, hx1, hc1, _⟩ := elt1 ha hgi
  refine Ru.skip (Ru.seq (Ru.block (Ru.reg ?_)))
  simp (disch := first | decide | omega) [e0, e3, e4, hx1, hc1, imax2]
  refine Rg.ret ?_
  show Ru (cF F) (.reg _ _) _ _ _
  refine Ru.reg ?_
  simp (disch := first | decide | omega) [e4]
  refine Rg.ret ⟨i + 1, by omega, rfl, by omega, by omega, ?_, rfl, max k p, ?_, ?_, ?_⟩
  · simp (disch := first | decide | omega) [e0]
  · simp (disch := first | decide | omega)
  · rcases (show max k p = k ∨ max k p = p by omega) with h | h <;> rw [h] <;> assumption
  · intro y hy
    rw [List.take_add_one, hgi] at hy
    rcases List.mem_append.1 hy with hy | hy
    · have := ht y hy; omega
    · simp at hy; omega
theorem minI_ok (hw : WfS st) {x : S} {a : List Int} (ha : RepI st x a) (hlen : a.length < 9223372036854775808) (h0 : 0 < a.length) :
    Ca (cF F) 49 [.sc x] st (fun w s => s = st ∧ ∃ k : Int, w = iv k ∧ k ∈ a ∧ ∀ y ∈ a, k ≤ y) := by
  refine Ca.of (hf := cf49) rfl rfl [q0] [.tmp q2] rfl rfl rfl fun Q hQ => ?_
  refine Ru.sreg (Rg.ret (Ru.seq (Ru.sreg ?_)))
  simp (disch := first | decide | omega) [lnS_sat ha]
  have hd : decide ((a.length : Int) < 1) = false := by simp; omega
  rw [hd]
  refine Rg.ret (Ru.cond rfl (fun h => by cases h) fun h => Ru.skip (Ru.sreg ?_))
  have hg0 := List.getElem?_eq_getElem h0
  have hm0 := List.getElem_mem h0
  generalize a[0] = a0 at hg0 hm0
  obtain ⟨id0, o0, hx0, hc0, _⟩ := elt1 ha hg0
  have hx0' : ∀ K, ixs 1 (V.sc x) (iv 0) K = K (.sc (.ptr id0 o0)) := fun K => hx0 K
  simp (disch := first | decide | omega) [hx0', hc0]
  refine Rg.ret (Ru.seq (Ru.sreg (Rg.ret ?_)))
  refine Ru.block (Ru.loop (fun i : Nat => a.length - i) (fun i ρ s => s = st ∧ i ≤ a.length ∧ 0 < i ∧ ρ q0 = .sc x ∧ ρ q4 = iv i ∧ ∃ k : Int, ρ q3 = iv k ∧ k ∈ a ∧ ∀ y ∈ a.take i, k ≤ y)
    ⟨1, rfl, h0, by decide, rfl, rfl, a0, rfl, hm0, fun y hy => ?_⟩ fun i ρ s' hI => ?_)
  · rw [List.take_one, List.head?_eq_getElem?, hg0] at hy
    simp at hy; omega
  obtain ⟨rfl, hi, hi0, e0, e4, k, e3, hk, ht⟩ := hI
  refine Ru.seq (Ru.sreg ?_)
  simp (disch := first | decide | omega) [e0, e4, lnS_sat ha]
  refine Rg.ret (Ru.cond rfl (fun h => ?_) fun h => Ru.exit ?_)
  rotate_left
  · simp at h
    simp only [Then, Out, if_true]
    have : i = a.length := by omega
    subst this
    rw [List.take_length] at ht
    exact Ru.sreg (Rg.ret (Ru.ret (hQ _ _ (.one (by simp (disch := first | decide | omega) [e3]) ⟨rfl, k, rfl, hk, ht⟩))))
  simp at h
  have hlt : i < a.length := by omega
  have hgi := List.getElem?_eq_getElem hlt
  have hm := List.getElem_mem hlt
  generalize a[i] = p at hgi hm
  obtain ⟨id1, o1, hx1, hc1, _⟩ := elt1 ha hgi
  refine Ru.skip (Ru.seq (Ru.block (Ru.reg ?_)))
  simp (disch := first | decide | omega) [e0, e3, e4, hx1, hc1, imin2]
  refine Rg.ret ?_
  show Ru (cF F) (.reg _ _) _ _ _
  refine Ru.reg ?_
  simp (disch := first | decide | omega) [e4]
  refine Rg.ret ⟨i + 1, by omega, rfl, by omega, by omega, ?_, rfl, min k p, ?_, ?_, ?_⟩
  · simp (disch := first | decide | omega) [e0]
  · simp (disch := first | decide | omega)
  · rcases (show min k p = k ∨ min k p = p by omega) with h | h <;> rw [h] <;> assumption
  · intro y hy
    rw [List.take_add_one, hgi] at hy
    rcases List.mem_append.1 hy with hy | hy
    · have := ht y hy; omega
    · simp at hy; omega
theorem maxU_ok (hw : WfS st) {x : S} {a : List Nat} (ha : RepN st x a) (hlen : a.length < 9223372036854775808) (h0 : 0 < a.length) :
    Ca (cF F) 55 [.sc x] st (fun w s => s = st ∧ ∃ k : Nat, w = uv k ∧ k ∈ a ∧ ∀ y ∈ a, y ≤ k) := by
  refine Ca.of (hf := cf55) rfl rfl [q0] [.tmp q2] rfl rfl rfl fun Q hQ => ?_
  refine Ru.sreg (Rg.ret (Ru.seq (Ru.sreg ?_)))
  simp (disch := first | decide | omega) [lnS_sat ha]
  have hd : decide ((a.length : Int) < 1) = false := by simp; omega
  rw [hd]
  refine Rg.ret (Ru.cond rfl (fun h => by cases h) fun h => Ru.skip (Ru.sreg ?_))
  have hg0 := List.getElem?_eq_getElem h0
  have hm0 := List.getElem_mem h0
  generalize a[0] = a0 at hg0 hm0
  obtain ⟨id0, o0, hx0, hc0, _⟩ := elt1 ha hg0
  have hx0' : ∀ K, ixs 1 (V.sc x) (iv 0) K = K (.sc (.ptr id0 o0)) := fun K => hx0 K
  simp (disch := first | decide | omega) [hx0', hc0]
  refine Rg.ret (Ru.seq (Ru.sreg (Rg.ret ?_)))
  refine Ru.block (Ru.loop (fun i : Nat => a.length - i) (fun i ρ s => s = st ∧ i ≤ a.length ∧ 0 < i ∧ ρ q0 = .sc x ∧ ρ q4 = iv i ∧ ∃ k : Nat, ρ q3 = uv k ∧ k ∈ a ∧ ∀ y ∈ a.take i, y ≤ k)
    ⟨1, rfl, h0, by decide, rfl, rfl, a0, rfl, hm0, fun y hy => ?_⟩ fun i ρ s' hI => ?_)
  · rw [List.take_one, List.head?_eq_getElem?, hg0] at hy
    simp at hy; omega
  obtain ⟨rfl, hi, hi0, e0, e4, k, e3, hk, ht⟩ := hI
  refine Ru.seq (Ru.sreg ?_)
  simp (disch := first | decide | omega) [e0, e4, lnS_sat ha]
  refine Rg.ret (Ru.cond rfl (fun h => ?_) fun h => Ru.exit ?_)
  rotate_left
  · simp at h
    simp only [Then, Out, if_true]
    have : i = a.length := by omega
    subst this
    rw [List.take_length] at ht
    exact Ru.sreg (Rg.ret (Ru.ret (hQ _ _ (.one (by simp (disch := first | decide | omega) [e3]) ⟨rfl, k, rfl, hk, ht⟩))))
  simp at h
  have hlt : i < a.length := by omega
  have hgi := List.getElem?_eq_getElem hlt
  have hm := List.getElem_mem hlt
  generalize a[i] = p at hgi hm
  obtain ⟨id1, o1, hx1, hc1, _⟩ := elt1 ha hgi
  refine Ru.skip (Ru.seq (Ru.block (Ru.reg ?_)))
  simp (disch := first | decide | omega) [e0, e3, e4, hx1, hc1, umax2]
  refine Rg.ret ?_
  show Ru (cF F) (.reg _ _) _ _ _
  refine Ru.reg ?_
  simp (disch := first | decide | omega) [e4]
  refine Rg.ret ⟨i + 1, by omega, rfl, by omega, by omega, ?_, rfl, max k p, ?_, ?_, ?_⟩
  · simp (disch := first | decide | omega) [e0]
  · simp (disch := first | decide | omega)
  · rcases (show max k p = k ∨ max k p = p by omega) with h | h <;> rw [h] <;> assumption
  · intro y hy
    rw [List.take_add_one, hgi] at hy
    rcases List.mem_append.1 hy with hy | hy
    · have := ht y hy; omega
    · simp at hy; omega
end Go.Proofs.YticfndhcbjcklaaDoor.Ev
namespace Go.Proofs.YticfndhcbjcklaaDoor.Ev
set_option linter.unusedSimpArgs false
set_option linter.unusedVariables false
variable {st s t : St} {n i : Nat}
/-- which wires a row reads -/
def readsD (g : GateD) (i : Nat) : Bool :=
  if g.kind = 1 then (if i = 0 then decide (g.q 0 ≠ 0 ∨ g.q 2 ≠ 0) else if i = 1 then decide (g.q 1 ≠ 0 ∨ g.q 2 ≠ 0) else if i = 2 then decide (g.q 3 ≠ 0) else false)
  else if g.kind = 2 then decide (i = 0) else decide (g.kind = 3)
theorem reads_ok (hw : WfS st) (g : GateD) : Ca (cF F) 51 [.agg (gateC g)] st (fun v s => Fr st s ∧ v = .agg [.bool (readsD g 0), .bool (readsD g 1), .bool (readsD g 2), .bool (readsD g 3)]) := by
  refine Ca.of (hf := cf51) rfl rfl [q0] [.cellN 4 q2] rfl rfl rfl fun Q hQ => ?_
  have f1 : Fr st (new st (gateC g)) := (Fr.refl hw).new _
  have f2 : Fr st (new (new st (gateC g)) [.bool false, .bool false, .bool false, .bool false]) := f1.new _
  have hO : Own (new (new st (gateC g)) [.bool false, .bool false, .bool false, .bool false]) (st.next + 1) 4 := Own.new
  have hr : ∀ i, rd (new (new st (gateC g)) [.bool false, .bool false, .bool false, .bool false]) st.next i = (gateC g)[i]? := fun i => by
    rw [rd_new, if_neg (by simp), rd_new, if_pos rfl]
  have hz : ∀ i, rd (new (new st (gateC g)) [.bool false, .bool false, .bool false, .bool false]) (st.next + 1) i = [S.bool false, .bool false, .bool false, .bool false][i]? := fun i => by
    rw [rd_new, if_pos (by simp)]
  refine Ru.sreg ?_
  simp
  refine Rg.ret ?_
  generalize new (new st (gateC g)) [.bool false, .bool false, .bool false, .bool false] = s2 at *
  have m0 : rd s2 st.next 0 = some (bs g.kind) := hr 0
  have m5 : rd s2 st.next 5 = some (us (g.q 0)) := hr 5
  have m6 : rd s2 st.next 6 = some (us (g.q 1)) := hr 6
  have m7 : rd s2 st.next 7 = some (us (g.q 2)) := hr 7
  have m8 : rd s2 st.next 8 = some (us (g.q 3)) := hr 8
  refine Ru.seq (Ru.sreg ?_)
  simp (disch := first | decide | omega) [m0]
  refine Rg.ret (Ru.block (Ru.seq (Ru.block (Ru.seq (Ru.block (Ru.seq (Ru.block (Ru.seq (Ru.seq (Ru.sreg ?_))))))))))
  simp (disch := first | decide | omega)
  have fin : ∀ (ρ : Ev) (s3 : St) (b : Nat → Bool), Fr st s3 → ρ q2 = .sc (.ptr (st.next + 1) 0) → Own s3 (st.next + 1) 4 → (∀ i, i < 4 → rd s3 (st.next + 1) i = some (.bool (readsD g i))) →
      Ru (cF F) (.seq (.reg [] fun c r s K => lN s n4 (r q2) fun v0 => sto s n4 (r q2) v0 fun s => K [] s) .ret) ρ s3 Q := fun ρ s3 b k e2 ho hb => by
    refine Ru.sreg ?_
    have hN : rdN s3 (st.next + 1) 0 4 = some [.bool (readsD g 0), .bool (readsD g 1), .bool (readsD g 2), .bool (readsD g 3)] := rdN_get rfl fun i x hx => by
      have hi : i < 4 := by have := (List.getElem?_eq_some_iff.1 hx).1; simpa using this
      rw [Nat.zero_add, hb i hi]
      rcases (show i = 0 ∨ i = 1 ∨ i = 2 ∨ i = 3 by omega) with rfl | rfl | rfl | rfl <;> exact hx
    simp (disch := first | decide | omega) [e2, hN]
    rw [show (sto s3 4 (V.sc (S.ptr (st.next + 1) 0)) (.agg [.bool (readsD g 0), .bool (readsD g 1), .bool (readsD g 2), .bool (readsD g 3)])) = fun K => K (wr s3 (st.next + 1) 0 [.bool (readsD g 0), .bool (readsD g 1), .bool (readsD g 2), .bool (readsD g 3)]) from funext fun K => sto_agg K ho (by simp)]
    refine Rg.ret (Ru.ret (hQ _ _ (.cellN (n := 3) (id := st.next + 1) (off := 0) e2 (rdN_get (l := [.bool (readsD g 0), .bool (readsD g 1), .bool (readsD g 2), .bool (readsD g 3)]) rfl fun i x hx => ?_) ⟨k.wr (Nat.le_succ _) (hw _ (Nat.le_succ _)) _, rfl⟩)))
    rw [rd_wr ho (by simp), if_pos ⟨rfl, Nat.zero_le _, by have := (List.getElem?_eq_some_iff.1 hx).1; simpa using this⟩]
    simpa using hx
  have fin1 : ∀ (ρ : Ev) (L : List S), L.length = 4 → ρ q2 = .sc (.ptr (st.next + 1) 0) → L = [.bool (readsD g 0), .bool (readsD g 1), .bool (readsD g 2), .bool (readsD g 3)] → Q .ret ρ (wr s2 (st.next + 1) 0 L) := fun ρ L hL e2 he => by
    subst he
    refine hQ _ _ (.cellN (n := 3) (id := st.next + 1) (off := 0) e2 (rdN_get (l := [.bool (readsD g 0), .bool (readsD g 1), .bool (readsD g 2), .bool (readsD g 3)]) rfl fun i x hx => ?_) ⟨f2.wr (Nat.le_succ _) (hw _ (Nat.le_succ _)) _, rfl⟩)
    rw [rd_wr hO (by simp), if_pos ⟨rfl, Nat.zero_le _, by have := (List.getElem?_eq_some_iff.1 hx).1; simpa using this⟩]
    simpa using hx
  by_cases k1 : g.kind = 1
  · rw [decide_eq_true k1]
    refine Rg.ret (Ru.cond rfl (fun _ => Ru.exit ?_) fun h => by cases h)
    simp only [Then, Out, if_true]
    refine Ru.seq (Ru.sreg ?_)
    have hfill : ∀ (a b c d : Bool) tm K, fillK tm K [(0, 1, .c (bl a)), (1, 1, .c (bl b)), (2, 1, .c (bl c)), (3, 1, .c (bl d))] [.bool false, .bool false, .bool false, .bool false] = K [.bool a, .bool b, .bool c, .bool d] := fun a b c d tm K => by
      rw [fill_sc _ _ _ _ _ _ (by simp), fill_sc _ _ _ _ _ _ (by simp [setRange]), fill_sc _ _ _ _ _ _ (by simp [setRange]), fill_sc _ _ _ _ _ _ (by simp [setRange]), fill_nil]; rfl
    have hsto : ∀ (a b c d : Bool) (K : St → R), sto s2 4 (V.sc (S.ptr (st.next + 1) 0)) (.agg [.bool a, .bool b, .bool c, .bool d]) K = K (wr s2 (st.next + 1) 0 [.bool a, .bool b, .bool c, .bool d]) := fun a b c d K => sto_agg K hO (by simp)
    by_cases a0 : g.q 0 = 0 <;> by_cases a1 : g.q 1 = 0
    all_goals simp (disch := first | decide | omega) [m5, m6, m7, m8, a0, a1, build_eq, hfill, hsto]
    all_goals refine Rg.ret (Ru.ret (fin1 _ _ rfl rfl ?_))
    all_goals simp [readsD, k1, a0, a1]
  rw [decide_eq_false k1]
  refine Rg.ret (Ru.cond rfl (fun h => by cases h) fun _ => Ru.skip (Ru.seq (Ru.sreg ?_)))
  simp (disch := first | decide | omega)
  have hst : ∀ (s3 : St) (j : Nat) (K : St → R), Own s3 (st.next + 1) 4 → j < 4 → sto s3 1 (V.sc (S.ptr (st.next + 1) j)) (bl true) K = K (wr s3 (st.next + 1) j [.bool true]) := fun s3 j K ho hj => sto_sc K ho (by omega)
  have o3 := hO.wr (id := st.next + 1) (off := 3) (l := [S.bool true])
  have o2 := o3.wr (id := st.next + 1) (off := 2) (l := [S.bool true])
  have o1 := o2.wr (id := st.next + 1) (off := 1) (l := [S.bool true])
  have o0 := o1.wr (id := st.next + 1) (off := 0) (l := [S.bool true])
  have hfw : ∀ (s3 : St) (j : Nat), Fr st s3 → Fr st (wr s3 (st.next + 1) j [.bool true]) := fun s3 j k => k.wr (Nat.le_succ _) (hw _ (Nat.le_succ _)) _
  by_cases k3 : g.kind = 3
  · rw [decide_eq_true k3]
    refine Rg.ret (Ru.cond rfl (fun _ => Ru.exit ?_) fun h => by cases h)
    simp only [Then, Out, if_true]
    refine Ru.reg ?_
    simp (disch := first | decide | omega) [hst, hO, o3, o2]
    refine Rg.ret ?_
    show Ru (cF F) (.seq (.reg _ _) _) _ _ _
    refine Ru.sreg ?_
    simp (disch := first | decide | omega) [hst, o1]
    refine Rg.ret (Ru.exit ?_)
    simp only [Then, Out]
    refine fin _ _ (readsD g) (hfw _ _ (hfw _ _ (hfw _ _ (hfw _ _ f2)))) rfl o0 fun i hi => ?_
    rw [rd_wr o1 (by simp), rd_wr o2 (by simp), rd_wr o3 (by simp), rd_wr hO (by simp), hz]
    rcases (show i = 0 ∨ i = 1 ∨ i = 2 ∨ i = 3 by omega) with rfl | rfl | rfl | rfl <;> simp [readsD, k3]
  rw [decide_eq_false k3]
  refine Rg.ret (Ru.cond rfl (fun h => by cases h) fun _ => Ru.skip (Ru.sreg ?_))
  simp (disch := first | decide | omega)
  have p0 := hO.wr (id := st.next + 1) (off := 0) (l := [S.bool true])
  by_cases k2 : g.kind = 2
  · rw [decide_eq_true k2]
    refine Rg.ret (Ru.cond rfl (fun _ => Ru.exit ?_) fun h => by cases h)
    simp only [Then, Out]
    refine Ru.sreg ?_
    simp (disch := first | decide | omega) [hst, hO]
    refine Rg.ret (Ru.exit ?_)
    simp only [Then, Out]
    refine fin _ _ (readsD g) (hfw _ _ f2) rfl p0 fun i hi => ?_
    rw [rd_wr hO (by simp), hz]
    rcases (show i = 0 ∨ i = 1 ∨ i = 2 ∨ i = 3 by omega) with rfl | rfl | rfl | rfl <;> simp [readsD, k2]
  rw [decide_eq_false k2]
  refine Rg.ret (Ru.cond rfl (fun h => by cases h) fun _ => Ru.skip (Ru.exit ?_))
  simp only [Then, Out]
  refine fin _ _ (readsD g) f2 rfl hO fun i hi => ?_
  rw [hz]
  rcases (show i = 0 ∨ i = 1 ∨ i = 2 ∨ i = 3 by omega) with rfl | rfl | rfl | rfl <;> simp [readsD, k1, k2, k3]
end Go.Proofs.YticfndhcbjcklaaDoor.Ev
namespace Go.Proofs.YticfndhcbjcklaaDoor.Ev
set_option linter.unusedSimpArgs false
set_option linter.unusedVariables false
variable {st s t : St} {n i : Nat}
theorem deepest_ok (hw : WfS st) {x : S} {a : List Int} (ha : RepI st x a) (hlen : a.length < 9223372036854775808) :
    Ca (cF F) 52 [.sc x] st (fun w s => s = st ∧ w = iv (a.foldl max 0)) := by
  refine Ca.of (hf := cf52) rfl rfl [q0] [.tmp q2] rfl rfl rfl fun Q hQ => ?_
  refine Ru.sreg (Rg.ret (Ru.sreg (Rg.ret (Ru.seq (Ru.sreg ?_)))))
  simp (disch := first | decide | omega) [lnS_sat ha]
  refine Rg.ret ?_
  refine Ru.block (Ru.loop (fun i : Nat => a.length - i) (fun i ρ s => s = st ∧ i ≤ a.length ∧ ρ q6 = .sc x ∧ ρ q7 = iv a.length ∧ ρ q8 = iv i ∧ ρ q3 = iv ((a.take i).foldl max 0))
    ⟨0, rfl, Nat.zero_le _, rfl, rfl, rfl, rfl⟩ fun i ρ s' hI => ?_)
  obtain ⟨rfl, hi, e6, e7, e8, e3⟩ := hI
  refine Ru.sreg ?_
  simp (disch := first | decide | omega) [e7, e8]
  refine Rg.ret (Ru.seq (Ru.cond rfl (fun h => ?_) fun h => Ru.exit ?_))
  rotate_left
  · simp at h
    simp only [Then, Out, if_true]
    have : i = a.length := by omega
    subst this
    rw [List.take_length] at e3
    exact Ru.sreg (Rg.ret (Ru.ret (hQ _ _ (.one (by simp (disch := first | decide | omega) [e3]) ⟨rfl, rfl⟩))))
  simp at h
  have hlt : i < a.length := by omega
  have hgi := List.getElem?_eq_getElem hlt
  generalize a[i] = p at hgi
  obtain ⟨id1, o1, hx1, hc1, _⟩ := elt1 ha hgi
  refine Ru.skip (Ru.seq (Ru.block (Ru.sreg ?_)))
  simp (disch := first | decide | omega) [e6, e8, hx1, hc1]
  refine Rg.ret (Ru.reg ?_)
  simp (disch := first | decide | omega) [e3, imax2]
  refine Rg.ret ?_
  show Ru (cF F) (.reg _ _) _ _ _
  refine Ru.reg ?_
  simp (disch := first | decide | omega) [e8]
  refine Rg.ret ⟨i + 1, by omega, rfl, by omega, ?_, ?_, rfl, ?_⟩
  · simp (disch := first | decide | omega) [e6]
  · simp (disch := first | decide | omega) [e7]
  · rw [List.take_add_one, hgi, List.foldl_append]
    simp (disch := first | decide | omega)
end Go.Proofs.YticfndhcbjcklaaDoor.Ev
namespace Go.Proofs.YticfndhcbjcklaaDoor.Ev
set_option linter.unusedSimpArgs false
set_option linter.unusedVariables false
variable {st s t : St} {n i : Nat}
theorem mul1_ok (n : Nat) (h : n < 4294967296) : Ca (cF F) 65 [uv 1, uv n] st (fun v s => s = st ∧ v = .tup [(false, [us 0]), (false, [us n])]) := by
  have e1 : (n &&& 4294967295) = n := by
    rw [show 4294967295 = 2 ^ 32 - 1 from rfl, Nat.and_two_pow_sub_one_eq_mod]; exact Nat.mod_eq_of_lt h
  have e2 : n / 4294967296 = 0 := Nat.div_eq_of_lt h
  have h76 : Ca (cF F) 76 [uv 1, uv n] st (fun v s => s = st ∧ v = .tup [(false, [us 0]), (false, [us n])]) := by
    refine Ca.of (hf := cf76) rfl rfl [q0, q1] [.tmp q4, .tmp q5] rfl rfl rfl fun Q hQ => ?_
    iterate 12
      refine Ru.sreg ?_
      simp (disch := first | decide | omega) [e1, e2]
      refine Rg.ret ?_
    exact Ru.ret (hQ _ _ (.two rfl rfl ⟨rfl, rfl⟩))
  refine Ca.of (hf := cf65) rfl rfl [q0, q1] [.tmp q4, .tmp q5] rfl rfl rfl fun Q hQ => ?_
  refine Ru.sreg (Rg.ret (Ru.seq (Ru.condF (Ru.skip ?_))))
  refine Ru.sreg ?_
  simp (disch := first | decide | omega)
  refine Rg.call h76 fun v s h => ?_
  obtain ⟨rfl, rfl⟩ := h
  simp (disch := first | decide | omega)
  refine Rg.ret (Ru.sreg (Rg.ret (Ru.ret (hQ _ _ (.two rfl rfl ⟨rfl, rfl⟩)))))
theorem repeat_ok (hw : WfS st) {x : S} {v : Int} (hx : RepI st x [v]) (n : Nat) (hn : n ≤ 40000) :
    Ca (cF F) 47 [.sc x, iv n] st (fun w s => Fr st s ∧ ∃ id, st.next ≤ id ∧ w = .sc (.slice id 0 n (some n) 1) ∧ Own s id n ∧ ∀ i, i < n → rd s id i = some (is v)) := by
  refine Ca.of (hf := cf47) rfl rfl [q0, q1] [.tmp q4] rfl rfl rfl fun Q hQ => ?_
  refine Ru.sreg (Rg.ret (Ru.seq (Ru.sreg ?_)))
  simp (disch := first | decide | omega)
  rw [decide_eq_false (show ¬ ((n : Int) < 0) by omega)]
  refine Rg.ret (Ru.cond rfl (fun h => by cases h) fun _ => Ru.skip (Ru.sreg ?_))
  simp (disch := first | decide | omega) [lnS_sat hx]
  refine Rg.call (mul1_ok n (by omega)) fun v s h => ?_
  obtain ⟨hs, rfl⟩ := h
  subst s
  simp (disch := first | decide | omega)
  refine Rg.ret (Ru.seq (Ru.sreg ?_))
  simp (disch := first | decide | omega)
  rw [decide_eq_false (show ¬ (9223372036854775807 < n) by omega)]
  refine Rg.ret (Ru.cond rfl (fun h => by cases h) fun _ => Ru.skip (Ru.sreg ?_))
  simp (disch := first | decide | omega) [xM_eq]
  refine Rg.ret (Ru.sreg ?_)
  have f1 := fr_mkz (n := n) (Fr.refl hw) [is 0] 1
  have o1 : Own (mkz st n 1 [is 0]) st.next n := by have := own_mkz (st := st) (n := n) [is 0] 1; rwa [Nat.mul_one] at this
  obtain ⟨s2, g1, g2⟩ := copy_any (o := some n) (off := 0) (c := n) f1.wf (hx.fr f1) o1 (by omega)
  simp (disch := first | decide | omega) [g1]
  refine Rg.ret (Ru.seq ?_)
  have k2 : Fr st s2 := g2.kp.fr f1 (fun id h => by cases h; exact Nat.le_refl _) hw
  refine Ru.block (Ru.loop (fun k : Nat => n - k) (fun k ρ s => Fr st s ∧ k ≤ n ∧ (0 < k ∨ n = 0) ∧ ρ q7 = .sc (.slice st.next 0 n (some n) 1) ∧ ρ q8 = iv k ∧ Own s st.next n ∧ ∀ i, i < k → rd s st.next i = some (is v))
    ⟨min 1 n, k2, by omega, by omega, rfl, rfl, g2.own _ _ o1, fun i hi => ?_⟩ fun k ρ s hI => ?_)
  · have : i = 0 := by omega
    subst this
    rw [g2.rd, if_pos ⟨rfl, by omega, by simp; omega⟩]
    simp
    rw [show min 1 n = 1 by omega]; rfl
  obtain ⟨hf, hk, hk0, e7, e8, ho, hr⟩ := hI
  refine Ru.seq (Ru.sreg ?_)
  simp (disch := first | decide | omega) [e7, e8]
  refine Rg.ret (Ru.cond rfl (fun h => ?_) fun h => Ru.exit ?_)
  rotate_left
  · simp at h
    simp only [Then, Out, if_true]
    have : k = n := by omega
    subst this
    exact Ru.sreg (Rg.ret (Ru.ret (hQ _ _ (.one rfl ⟨hf, st.next, Nat.le_refl _, by simp (disch := first | decide | omega) [e7], ho, hr⟩))))
  simp at h
  have hs : Sat s (.slice st.next 0 k (some n) 1) k 1 (List.replicate k (is v)) := sat_of_rd ho (by simp) (fun m hm => by cases hm; exact hk) fun i x hx => by
    rw [List.getElem?_replicate] at hx
    split at hx
    · cases hx; rw [Nat.zero_add]; exact hr i (by assumption)
    · cases hx
  obtain ⟨s3, ss3, g3, g4⟩ := copy_dw (c := n - k) (off := k) (o := some (n - k)) (n0 := s.next) (bit := 128) (pre := 126) (al := 0) (lm := 0) (sm := 0) (hv := 0) (ll := []) (ss := []) hf.wf hs ho (by omega) (by decide) (by decide) (by decide) (by decide)
  refine Ru.skip (Ru.block (Ru.drw ?_))
  simp (disch := first | decide | omega) [e7, e8, cut_lo, cut_hi, show k ≠ n by omega, g3]
  refine Rg.ret ⟨k + min k (n - k), by omega, ?_, by omega, by omega, ?_, ?_, ?_, ?_⟩
  · exact g4.kp.fr hf (fun id h => by cases h; exact Nat.le_refl _) hw
  · simp (disch := first | decide | omega) [e7]
  · simp (disch := first | decide | omega)
  · exact g4.own _ _ ho
  · intro i hi
    rw [g4.rd]
    by_cases hik : i < k
    · rw [if_neg (by omega)]; exact hr i hik
    · have hl : (List.take (min k (n - k) * 1) (List.replicate k (is v))).length = min k (n - k) := by simp
      rw [if_pos ⟨rfl, by omega, by rw [hl]; omega⟩, List.getElem?_take, if_pos (by omega), List.getElem?_replicate, if_pos (by omega)]
end Go.Proofs.YticfndhcbjcklaaDoor.Ev
namespace Go.Proofs.YticfndhcbjcklaaDoor.Ev
set_option linter.unusedSimpArgs false
set_option linter.unusedVariables false
variable {st s t : St} {n i : Nat}
theorem few6_ok (hw : WfS st) {x : S} {l : List GatesD} (hl : RepGs st x l) (hlen : l.length < 9223372036854775808) :
    Ca (cF F) 6 [.sc x, iv 6] st (fun v s => Fr st s ∧ ∃ y L, v = .sc y ∧ RepGs s y L ∧ L.length ≤ 6 ∧ ∀ g ∈ L, g.vars ≤ 200 ∧ g.rows.length ≤ 200) := by
  refine Ca.of (hf := cf6) rfl rfl [q0, q1] [.tmp q4] rfl rfl rfl fun Q hQ => ?_
  refine Ru.sreg (Rg.ret (Ru.sreg (Rg.ret (Ru.seq (Ru.sreg (Rg.ret ?_))))))
  refine Ru.block (Ru.loop (fun i : Nat => l.length - i) (fun i ρ s => Fr st s ∧ i ≤ l.length ∧ ρ q0 = .sc x ∧ ρ q1 = iv 6 ∧ ρ q6 = iv i ∧ ∃ y, ρ q5 = .sc y ∧ ∃ L, RepGs s y L ∧ Grw st.next s y L.length 5 ∧ L.length ≤ 6 ∧ ∀ g ∈ L, g ∈ l ∧ g.vars ≤ 200 ∧ g.rows.length ≤ 200)
    ⟨0, Fr.refl hw, Nat.zero_le _, rfl, rfl, rfl, .nils, rfl, [], ⟨Sat.nil 5, fun g hg => by cases hg⟩, Grw.nil _ _, Nat.zero_le _, fun g hg => by cases hg⟩ fun i ρ s' hI => ?_)
  obtain ⟨hf, hi, e0, e1, e6, y, e5, L, hL, hG, h6, hall⟩ := hI
  have hx := hl.fr hf
  refine Ru.seq (Ru.seq (Ru.reg ?_))
  simp (disch := first | decide | omega) [e0, e1, e5, e6, lnS_sat hx.sat, lnS_sat hL.sat]
  have fin : ∀ ρ' : Ev, ρ' q5 = .sc y → Ru (cF F) (.seq (.reg [q4] fun c r s K => K [(r q5)] s) .ret) ρ' s' Q := fun ρ' e5 =>
    Ru.sreg (Rg.ret (Ru.ret (hQ _ _ (.one e5 ⟨hf, y, L, rfl, hL, h6, fun g hg => (hall g hg).2⟩))))
  by_cases hlt : i < l.length
  rotate_left
  · simp (disch := first | decide | omega) [hlt]
    refine Rg.ret (Ru.cond rfl (fun h => by cases h) fun h => Ru.exit ?_)
    simp only [Then, Out, if_true]
    exact fin _ (by simp (disch := first | decide | omega) [e5])
  simp (disch := first | decide | omega) [hlt, e1, e5, lnS_sat hL.sat]
  refine Rg.ret (Ru.cond rfl (fun h => ?_) fun h => Ru.exit ?_)
  rotate_left
  · simp only [Then, Out, if_true]
    exact fin _ (by simp (disch := first | decide | omega) [e5])
  simp at h
  have hgi := List.getElem?_eq_getElem hlt
  have hmem := List.getElem_mem hlt
  generalize l[i] = g at hgi hmem
  obtain ⟨id, o, hix, hc, hsid⟩ := elt (f := gC) (z := 5) (fun _ => rfl) hx.sat hgi
  have c1 := hc 1 _ rfl
  have c4 := hc 4 _ rfl
  refine Ru.skip (Ru.seq (Ru.block (Ru.sreg ?_)))
  simp (disch := first | decide | omega) [e0, e6, hix, c1]
  by_cases hv : g.vars ≤ 200
  rotate_left
  · simp (disch := first | decide | omega) [hv]
    refine Rg.ret (Ru.cond rfl (fun h => by cases h) fun h => Ru.skip ?_)
    show Ru (cF F) (.reg _ _) _ _ _
    refine Ru.reg ?_
    simp (disch := first | decide | omega) [e6]
    refine Rg.ret ⟨i + 1, by omega, hf, by omega, ?_, ?_, rfl, y, ?_, L, hL, hG, h6, hall⟩
    all_goals simp (disch := first | decide | omega) [e0, e1, e5]
  simp (disch := first | decide | omega) [hv, e0, e6, hix, c4, lnS_sat (hx.rows g hmem)]
  by_cases hr : g.rows.length ≤ 200
  rotate_left
  · have hd : decide ((g.rows.length : Int) ≤ 200) = false := by simp; omega
    rw [hd]
    refine Rg.ret (Ru.cond rfl (fun h => by cases h) fun h => Ru.skip ?_)
    show Ru (cF F) (.reg _ _) _ _ _
    refine Ru.reg ?_
    simp (disch := first | decide | omega) [e6]
    refine Rg.ret ⟨i + 1, by omega, hf, by omega, ?_, ?_, rfl, y, ?_, L, hL, hG, h6, hall⟩
    all_goals simp (disch := first | decide | omega) [e0, e1, e5]
  have hd : decide ((g.rows.length : Int) ≤ 200) = true := by simp; omega
  rw [hd]
  refine Rg.ret (Ru.cond rfl (fun _ => ?_) fun h => by cases h)
  refine Ru.reg ?_
  have hgc : rdN s' id o 5 = some (gC g) := rdN_get rfl hc
  have hfill : ∀ tm K, fillK tm K [(0, 5, .c (.agg (gC g)))] [is 0, is 0, is 0, is 0, zn] = K (gC g) := fun tm K => (fill_agg tm K _ 0 (gC g) 5 [] rfl (by simp)).trans (by rw [fill_nil]; rfl)
  have f1 : Fr s' (new s' (gC g)) := (Fr.refl hf.wf).new _
  have hs1 : Sat (new s' (gC g)) (.slice s'.next 0 1 (some 1) 5) 1 5 (gC g) := Sat.new rfl fun m h => by cases h; exact Nat.le_refl _
  obtain ⟨y2, s2, hA, g1, g2, g3, g4, g5⟩ := app_ok (b := 56) f1.wf (hL.sat.fr f1) (hG.fr f1) (Nat.le_trans hf.next f1.next) hs1.1 (by decide) (by omega) (by omega)
  simp (disch := first | decide | omega) [e0, e6, e5, hix, hgc, buildS_eq, hfill, xA_sat hs1, hA]
  refine Rg.ret ?_
  show Ru (cF F) (.reg _ _) _ _ _
  refine Ru.reg ?_
  simp (disch := first | decide | omega) [e6]
  have hy : ∀ id, sid y = some id → st.next ≤ id := hG.sid
  have k2 : Fr st s2 := g3.fr (hf.trans f1) hy hw
  refine Rg.ret ⟨i + 1, by omega, k2, by omega, ?_, ?_, rfl, y2, ?_, L ++ [g], ⟨?_, ?_⟩, ?_, ?_, ?_⟩
  · simp (disch := first | decide | omega) [e0]
  · simp (disch := first | decide | omega) [e1]
  · simp (disch := first | decide | omega)
  · rw [List.length_append, List.flatMap_append]
    simpa using g1
  · intro g' hg'
    rcases List.mem_append.1 hg' with hg' | hg'
    · exact (hl.fr k2).rows g' (hall g' hg').1
    · obtain rfl := List.mem_singleton.1 hg'
      exact (hl.fr k2).rows g' hmem
  · rw [List.length_append]; exact g2
  · rw [List.length_append, List.length_singleton]; omega
  · intro g' hg'
    rcases List.mem_append.1 hg' with hg' | hg'
    · exact hall g' hg'
    · obtain rfl := List.mem_singleton.1 hg'
      exact ⟨hmem, hv, hr⟩

end Go.Proofs.YticfndhcbjcklaaDoor.Ev
