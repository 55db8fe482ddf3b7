/- What the listed package variables hold, and the evaluator's runs, by the kernel; no conditions. -/
import Derived.Test.YticfndhcbjcklaaDoorL
import Derived.Test.YticfndhcbjcklaaDoorMf
import Derived.Test.YticfndhcbjcklaaDoorEvD
import Derived.Test.YticfndhcbjcklaaDoorChecked
namespace Go.Proofs.YticfndhcbjcklaaDoor.Ev
set_option linter.unusedSimpArgs false
set_option linter.unusedVariables false
theorem holdsAll_fr {s t : St} (h : Fr s t) : ∀ {l : List (Nat × List S)}, holdsAll s.heap l = true → holdsAll t.heap l = true
  | [], _ => rfl
  | p :: r, hh => by
    have hh : (holds1 s.heap p && holdsAll s.heap r) = true := hh
    simp only [Bool.and_eq_true] at hh
    show (holds1 t.heap p && holdsAll t.heap r) = true
    rw [holdsAll_fr h hh.2, Bool.and_true]
    have h1 := hh.1
    unfold holds1 at h1 ⊢
    cases hb : s.heap.get p.1 with
    | none => rw [hb] at h1; cases h1
    | some b => rw [hb] at h1; rw [h.old _ _ hb]; exact h1
theorem lies_of {st : St} (hw : WfS st) (hh : holdsAll st.heap l0 = true) {x : Nat} (hx : x < 4) : ∃ l, Lies st 0 x (pC x) l := by
  have h1 := holdsAll_mem hh (List.mem_cons_self)
  unfold holds1 at h1
  split at h1
  · rename_i b hb
    split at h1
    · rename_i c hk hc
      have he := lEq_of h1
      obtain ⟨e1, e2⟩ := cellsAt_get hc
      have hr : ∀ i y, c[i]? = some y → rd st 0 i = some y := fun i y hy => by
        have h2 := e2 i y hy
        rw [Nat.zero_add] at h2
        unfold rd
        rw [show st.heap.get 0 = some b from hb]
        exact h2
      rw [he] at hr
      have main : ∃ l, rdN st 0 (x * 5) 5 = some (us (pC x) :: l) := by
        rcases (show x = 0 ∨ x = 1 ∨ x = 2 ∨ x = 3 by omega) with rfl | rfl | rfl | rfl
        all_goals exact ⟨_, rdN_get (l := [_, _, _, _, _]) rfl fun i y hy => by
          have hi : i < 5 := by have := (List.getElem?_eq_some_iff.1 hy).1; simpa using this
          rcases (show i = 0 ∨ i = 1 ∨ i = 2 ∨ i = 3 ∨ i = 4 by omega) with rfl | rfl | rfl | rfl | rfl <;> (cases hy; exact hr _ _ rfl)⟩
      obtain ⟨l, hl⟩ := main
      exact ⟨l, hw, hx, hl, pC_pos x, by have := pC_lt x; omega⟩
    · cases h1
  · cases h1
theorem glo_of {st : St} (hw : WfS st) (hh : holdsAll st.heap l0 = true) : Glo st := ⟨hw, fun x hx => lies_of hw hh hx⟩
theorem works_ok {st : St} (hh : holdsAll st.heap l0 = true) : Ca (cO l0 O0 F) 11 [] st (fun v s => v = bl true ∧ s = st) := Ca.known rfl hh
theorem law_ok {st : St} (hw : WfS st) (hh : holdsAll st.heap l0 = true) {x y z : S} {l : List GatesD} {a b : List NsD} (hl : RepGs st x l) (ha : RepLs st y a) (hb : RepLs st z b)
    (hlen : l.length < 9223372036854775808) (alen : a.length < 9223372036854775808) (blen : b.length < 9223372036854775808) (hr : ∀ g ∈ l, g.rows.length < 9223372036854775808) (a2 : ∀ e ∈ a, e.ns.length < 9223372036854775808) (b2 : ∀ e ∈ b, e.ns.length < 9223372036854775808)
    (Q : X → Ev → St → Prop) (hQ : ∀ ρ s', ρ q6 = bl true → Q .ret ρ s') :
    Ru (cO l0 O0 F) cf3.body (updE [q0, q1, q2] [.sc x, .sc y, .sc z] ev0) st Q := by
  refine Ru.rs fun P hP => Rg.ret (hP _ _ ?_)
  clear hP P
  refine Ru.rs fun P hP => ?_
  simp -implicitDefEqProofs (disch := first | decide | omega)
  refine Rg.call (Ca.none rfl (few_ok hw hl hlen)) fun v s h => ?_
  obtain ⟨k1, x2, L, rfl, hL, h24, h200⟩ := h
  refine Rg.call (Ca.none rfl (lists_ok k1.wf (ha.fr k1) alen a2)) fun v s2 h => ?_
  obtain ⟨k2, y2, A, rfl, hA, a30, a200⟩ := h
  have k12 := k1.trans k2
  refine Rg.call (Ca.none rfl (lists_ok k2.wf (hb.fr k12) blen b2)) fun v s3 h => ?_
  obtain ⟨k3, z2, B, rfl, hB, b30, b200⟩ := h
  have k13 := k12.trans k3
  refine Rg.ret (hP _ _ ?_)
  clear hP P
  have hrows : ∀ g ∈ L, g.rows.length < 9223372036854775808 := fun g hg => by have := (h200 g hg).2; omega
  refine Ru.rs fun P hP => ?_
  simp -implicitDefEqProofs (disch := first | decide | omega)
  refine Rg.call (Ca.none rfl (inputs_ok (glo_of k13.wf (holdsAll_fr k13 hh)) (hL.fr (k2.trans k3)) (hA.fr k3) hB h24 hrows a30 a200 b30 b200)) fun v s4 h => ?_
  obtain ⟨k4, p1, p2, e, rfl, he, ht, hf⟩ := h
  have k14 := k13.trans k4
  simp -implicitDefEqProofs (disch := first | decide | omega)
  refine Rg.ret (hP _ _ ?_)
  clear hP P
  refine Ru.rs fun P hP => ?_
  simp -implicitDefEqProofs (disch := first | decide | omega)
  refine Rg.call (Ca.none rfl (refInputs_ok (glo_of k14.wf (holdsAll_fr k14 hh)) (hL.fr ((k2.trans k3).trans k4)) (hA.fr (k3.trans k4)) (hB.fr k4) h24 hrows a30 a200 b30 b200)) fun v s5 h => ?_
  obtain ⟨k5, r1, r2, e', rfl, he', ht', hf'⟩ := h
  have k15 := k14.trans k5
  have hee : e' = e := by
    cases e <;> cases e' <;> simp_all
  subst hee
  simp -implicitDefEqProofs (disch := first | decide | omega)
  refine Rg.ret (hP _ _ ?_)
  clear hP P
  have hreps : ∃ n1 n2 : List Nat, RepN s5 p1 n1 ∧ RepN s5 p2 n2 ∧ RepN s5 r1 n1 ∧ RepN s5 r2 n2 ∧ n1.length < 9223372036854775808 ∧ n2.length < 9223372036854775808 := by
    cases e' with
    | true =>
      have hn1 := allNs_le a200
      have hn2 := allNs_le b200
      exact ⟨allNs A, allNs B, (ht rfl).1.fr k5, (ht rfl).2.fr k5, (ht' rfl).1, (ht' rfl).2, by omega, by omega⟩
    | false =>
      obtain ⟨rfl, rfl⟩ := hf rfl
      obtain ⟨rfl, rfl⟩ := hf' rfl
      exact ⟨[], [], Sat.nil 1, Sat.nil 1, Sat.nil 1, Sat.nil 1, by simp, by simp⟩
  obtain ⟨n1, n2, c1, c2, c3, c4, c5, c6⟩ := hreps
  refine Ru.rs fun P hP => ?_
  simp -implicitDefEqProofs (disch := first | decide | omega)
  refine Rg.call (Ca.none rfl (same_ok k5.wf c1 c3 c5)) fun v s6 h => ?_
  obtain ⟨hs6, rfl⟩ := h
  subst s6
  rw [decide_eq_true (rfl : n1 = n1)]
  simp -implicitDefEqProofs (disch := first | decide | omega)
  refine Rg.call (Ca.none rfl (same_ok k5.wf c2 c4 c6)) fun v s6 h => ?_
  obtain ⟨hs6, rfl⟩ := h
  subst s6
  rw [decide_eq_true (rfl : n2 = n2)]
  simp -implicitDefEqProofs (disch := first | decide | omega)
  refine Rg.call (works_ok (holdsAll_fr k15 hh)) fun v s6 h => ?_
  obtain ⟨rfl, hs6⟩ := h
  subst s6
  exact Rg.ret (hP _ _ (Ru.ret (hQ _ _ rfl)))
theorem runs_open {st : St} (hw : WfS st) (hh : holdsAll st.heap l0 = true) {x y z : S} {l : List GatesD} {a b : List NsD} (hl : RepGs st x l) (ha : RepLs st y a) (hb : RepLs st z b)
    (hlen : l.length < 9223372036854775808) (alen : a.length < 9223372036854775808) (blen : b.length < 9223372036854775808) (hr : ∀ g ∈ l, g.rows.length < 9223372036854775808) (a2 : ∀ e ∈ a, e.ns.length < 9223372036854775808) (b2 : ∀ e ∈ b, e.ns.length < 9223372036854775808) :
    ∃ k, callK F (runO l0 O0 F k) 3 [.sc x, .sc y, .sc z] st saysTrue = .done .normal .leaf ⟨.leaf, 0, 0⟩ := by
  obtain ⟨x', t, s', ⟨rfl, h1⟩, n, h2⟩ := law_ok hw hh hl ha hb hlen alen blen hr a2 b2 (fun x ρ s' => x = .ret ∧ ρ q6 = bl true) (fun ρ s' h => ⟨rfl, h⟩) (setLp [q0, q1, q2] [.sc x, .sc y, .sc z] .leaf) (by rw [rho_setLp, rho_leaf])
  refine ⟨n, ?_⟩
  show setL [q0, q1, q2] [.sc x, .sc y, .sc z] .leaf (fun tm => retK cf3.results saysTrue (runO l0 O0 F n cf3.body tm st)) = _
  rw [setL_eq', ← runC_O, h2 n (Nat.le_refl _)]
  show fin1 saysTrue s' [rho t q6] = _
  rw [h1]; rfl
end Go.Proofs.YticfndhcbjcklaaDoor.Ev
namespace Go.Proofs.YticfndhcbjcklaaDoor.Ev
set_option linter.unusedSimpArgs false
set_option linter.unusedVariables false
variable {st s t : St} {n i id off : Nat}
abbrev wC (r : GateD) : List S := [is (r.w 0), is (r.w 1), is (r.w 2), is (r.w 3)]
def allR (l : List GatesD) (i : Nat) : List GateD := (l.take i).flatMap GatesD.rows
theorem allR_succ {l : List GatesD} {i : Nat} {g : GatesD} (h : l[i]? = some g) : allR l (i + 1) = allR l i ++ g.rows := by
  unfold allR; rw [List.take_add_one, h]; simp
def remR (l : List GatesD) (i : Nat) : List GateD := (l.drop i).flatMap GatesD.rows
theorem remR_cons {l : List GatesD} {i : Nat} {g : GatesD} (h : l[i]? = some g) : remR l i = g.rows ++ remR l (i + 1) := by
  unfold remR
  obtain ⟨hi, he⟩ := List.getElem?_eq_some_iff.1 h
  rw [List.drop_eq_getElem_cons hi, List.flatMap_cons, he]
theorem allR_len {l : List GatesD} (h : ∀ g ∈ l, g.rows.length ≤ 200) : ∀ i, (allR l i).length ≤ i * 200
  | 0 => by simp [allR]
  | i + 1 => by
    have ih := allR_len h i
    cases hg : l[i]? with
    | none =>
      have : allR l (i + 1) = allR l i := by
        unfold allR
        have hl : l.length ≤ i := List.getElem?_eq_none_iff.1 hg
        rw [List.take_of_length_le hl, List.take_of_length_le (by omega)]
      rw [this]; omega
    | some g =>
      rw [allR_succ hg, List.length_append]
      have := h g (List.mem_of_getElem? hg)
      omega
theorem join_same {l : List GatesD} {s s' : St} {v v' : V} (h1 : JoinR l s v) (h2 : JoinR l s' v') (k : Fr s s') :
    ∃ (f a b c : Int) (y1 y2 : S) (L : List GateD) (e : Int), v = .tup [(true, [is f, is a, is b, is c, y1]), (false, [is e])] ∧ v' = .tup [(true, [is f, is a, is b, is c, y2]), (false, [is e])] ∧ RepRows s' y1 L ∧ RepRows s' y2 L ∧ L.length ≤ 8000 := by
  obtain ⟨c1, e1, rfl, h1⟩ := h1
  obtain ⟨c2, e2, rfl, h2⟩ := h2
  rcases h1 with ⟨n1, rfl, rfl⟩ | ⟨n1, r1, rfl, rfl⟩ | ⟨n1, r1, rfl, y1, rfl, p1⟩
  · rcases h2 with ⟨n2, rfl, rfl⟩ | ⟨n2, r2, rfl, rfl⟩ | ⟨n2, r2, rfl, y2, rfl, p2⟩
    · exact ⟨0, 0, 0, 0, zn, zn, [], 1, rfl, rfl, Sat.nil 11, Sat.nil 11, by simp⟩
    · exact absurd n2 n1
    · exact absurd n2 n1
  · rcases h2 with ⟨n2, rfl, rfl⟩ | ⟨n2, r2, rfl, rfl⟩ | ⟨n2, r2, rfl, y2, rfl, p2⟩
    · exact absurd n1 n2
    · exact ⟨0, 0, 0, 0, zn, zn, [], 9, rfl, rfl, Sat.nil 11, Sat.nil 11, by simp⟩
    · exact absurd r2 r1
  · rcases h2 with ⟨n2, rfl, rfl⟩ | ⟨n2, r2, rfl, rfl⟩ | ⟨n2, r2, rfl, y2, rfl, p2⟩
    · exact absurd n1 n2
    · exact absurd r1 r2
    · have h3 := joinTo_len l l.length (Nat.le_refl _)
      have h4 := r1.r
      rw [List.take_length] at h3
      exact ⟨_, _, _, _, y1, y2, _, 0, rfl, rfl, p1.fr k, p2, by omega⟩
theorem groups_same {l : List GatesD} {s s' : St} {v v' : V} (h1 : GrR l s v) (h2 : GrR l s' v') (k : Fr s s') (h24 : l.length ≤ 24) :
    ∃ (y1 y2 : S) (A B : List IsD) (e : Int), v = .tup [(false, [y1]), (false, [is e])] ∧ v' = .tup [(false, [y2]), (false, [is e])] ∧ RepIs s' y1 A ∧ RepIs s' y2 B ∧ A.map IsD.ns = B.map IsD.ns ∧ A.length < 100 ∧ ∀ x ∈ A, x.ns.length < 100 := by
  obtain ⟨y1, e1, rfl, h1⟩ := h1
  obtain ⟨y2, e2, rfl, h2⟩ := h2
  rcases h1 with ⟨n1, rfl, rfl⟩ | ⟨n1, rfl, A, rA, hA⟩
  · rcases h2 with ⟨n2, rfl, rfl⟩ | ⟨n2, rfl, B, rB, hB⟩
    · exact ⟨.nils, .nils, [], [], 1, rfl, rfl, ⟨Sat.nil 1, fun x hx => by cases hx⟩, ⟨Sat.nil 1, fun x hx => by cases hx⟩, rfl, by simp, fun x hx => by cases hx⟩
    · exact absurd n2 n1
  · rcases h2 with ⟨n2, rfl, rfl⟩ | ⟨n2, rfl, B, rB, hB⟩
    · exact absurd n1 n2
    · have hg := grp_len l l.length
      refine ⟨y1, y2, A, B, 0, rfl, rfl, rA.fr k, rB, by rw [hA, hB], ?_, fun x hx => ?_⟩
      · have := congrArg List.length hA; simp at this; omega
      · have := hg.2 x.ns (by rw [← hA]; exact List.mem_map_of_mem hx); omega
theorem wires_ints (g : GateD) : All2 IntK (wC g) (wC g) := by
  have h : ∀ k m, IntK (.int k m) (.int k m) := fun k m => ⟨k, m, m, rfl, rfl⟩
  exact .cons (h _ _) (.cons (h _ _) (.cons (h _ _) (.cons (h _ _) .nil)))
theorem joins_law {st : St} (hw : WfS st) (hh : holdsAll st.heap l0 = true) {x : S} {l : List GatesD} (hl : RepGs st x l)
    (hlen : l.length < 9223372036854775808) (hr : ∀ g ∈ l, g.rows.length < 9223372036854775808) (Q : X → Ev → St → Prop) (hQ : ∀ ρ s', ρ q2 = bl true → Q .ret ρ s') :
    Ru (cO l0 O0 F) cf4.body (updE [q0] [.sc x] ev0) st Q := by
  refine Ru.rs fun P hP => Rg.ret (hP _ _ ?_)
  clear hP P
  refine Ru.rs fun P hP => ?_
  simp -implicitDefEqProofs (disch := first | decide | omega)
  refine Rg.call (Ca.none rfl (few_ok hw hl hlen)) fun v s1 h => ?_
  obtain ⟨k1, x, l, rfl, hl, h24, h200⟩ := h
  refine Rg.ret (hP _ _ ?_)
  clear hP P
  have hr2 : ∀ g ∈ l, g.rows.length ≤ 200 := fun g hg => (h200 g hg).2
  have hr : ∀ g ∈ l, g.rows.length < 9223372036854775808 := fun g hg => by have := hr2 g hg; omega
  refine Ru.rs fun P hP => Rg.ret (hP _ _ ?_)
  clear hP P
  refine Ru.seq (Ru.rs fun P hP => Rg.ret (hP _ _ ?_))
  clear hP P
  refine Ru.at (fun ρ => ρ q0 = .sc x ∧ ρ q3 = .sc .nils ∧ ρ q4 = iv 0) ⟨rfl, rfl, rfl⟩ fun ρ1 hE => ?_
  obtain ⟨e0, e3, e4⟩ := hE
  refine Ru.block (Ru.lp [q0] (fun i : Nat => l.length - i) (fun i ρ s => i ≤ l.length ∧ ρ q4 = iv i ∧ Fr s1 s ∧ ∃ w, ρ q3 = .sc w ∧ Sat s w (allR l i).length 4 ((allR l i).flatMap wC) ∧ Grw s1.next s w (allR l i).length 4)
    ⟨0, by omega, e4, Fr.refl k1.wf, .nils, e3, Sat.nil 4, Grw.nil _ _⟩ fun i ρ s hk hI => ?_)
  clear e3 e4
  obtain ⟨hi, e4, hf, w, e3, hW, hGw⟩ := hI
  refine Ru.seq (Ru.rs fun P hP => ?_)
  simp -implicitDefEqProofs (disch := first | decide | omega) [hk.e, e0, e4, lnS_sat (hl.fr hf).sat]
  refine Rg.ret (hP _ _ ?_)
  clear hP P
  refine Ru.cond rfl (fun h => Ru.skip ?_) fun h => Ru.exit ?_
  · simp at h
    have hlt : i < l.length := by omega
    have hgi := List.getElem?_eq_getElem hlt
    have hmem := List.getElem_mem hlt
    generalize l[i] = g at hgi hmem
    have hal := allR_len hr2 i
    have hgr := hr2 g hmem
    refine Ru.seq (Ru.block (Ru.rs fun P hP => Rg.ret (hP _ _ ?_)))
    clear hP P
    refine Ru.at (fun ρ' => Keep [q0] ρ' ρ1 ∧ ρ' q4 = iv i ∧ ρ' q3 = .sc w ∧ ρ' q5 = iv 0) ⟨by repeat first | exact hk | refine Keep.up (by rfl) ?_, by simp (disch := first | decide | omega) [e4], by simp (disch := first | decide | omega) [e3], rfl⟩ fun ρ2 hE => ?_
    clear hk e3 e4 ρ
    obtain ⟨hk, e4, e3, e5⟩ := hE
    refine Ru.block (Ru.lp [q0, q4] (fun k : Nat => g.rows.length - k) (fun k ρ s => k ≤ g.rows.length ∧ ρ q5 = iv k ∧ Fr s1 s ∧ ∃ w, ρ q3 = .sc w ∧ Sat s w (allR l i ++ g.rows.take k).length 4 ((allR l i ++ g.rows.take k).flatMap wC) ∧ Grw s1.next s w (allR l i ++ g.rows.take k).length 4)
      ⟨0, by omega, e5, hf, w, e3, by simpa using hW, by simpa using hGw⟩ fun k ρ s hk2 hI => ?_)
    clear e3 e5 hW hGw hf
    obtain ⟨hkl, e5, hf, w, e3, hW, hGw⟩ := hI
    obtain ⟨rid, ro, hix, hgc, _⟩ := elt (f := gC) (z := 5) (fun _ => rfl) (hl.fr hf).sat hgi
    have hrr := (hl.fr hf).rows g hmem
    refine Ru.seq (Ru.rs fun P hP => ?_)
    simp -implicitDefEqProofs (disch := first | decide | omega) [hk2.e, hk.e, e0, e4, e5, hix, hgc 4 _ rfl, lnS_sat hrr]
    refine Rg.ret (hP _ _ ?_)
    clear hP P
    refine Ru.cond rfl (fun h => Ru.skip ?_) fun h => Ru.exit ?_
    · simp at h
      have hrk := List.getElem?_eq_getElem (show k < g.rows.length by omega)
      generalize g.rows[k] = row at hrk
      obtain ⟨rid2, ro2, hix2, hgc2, _⟩ := elt (f := gateC) (z := 11) (fun _ => rfl) hrr hrk
      have hw4 : rdN s rid2 (ro2 + 1) 4 = some (wC row) := rdN_get rfl fun j x hx => by
        have hj : j < 4 := by have := (List.getElem?_eq_some_iff.1 hx).1; simpa using this
        rw [Nat.add_assoc]
        refine hgc2 (1 + j) x ?_
        rcases (show j = 0 ∨ j = 1 ∨ j = 2 ∨ j = 3 by omega) with rfl | rfl | rfl | rfl <;> exact hx
      have hfill : ∀ tm K, fillK tm K [(0, 4, .c (.agg (wC row)))] [is 0, is 0, is 0, is 0] = K (wC row) := fun tm K => (fill_agg tm K _ 0 (wC row) 4 [] rfl (by simp)).trans (by rw [fill_nil]; rfl)
      have hll : (allR l i ++ g.rows.take k).length ≤ i * 200 + 200 := by rw [List.length_append, List.length_take]; omega
      obtain ⟨w', s', hA, g1, g2, g3, g4, g5⟩ := app_bld (b := 32) (k := 1) (nc := wC row) hf.wf hW hGw hf.next (by decide) rfl (by omega) (by omega)
      refine Ru.seq (Ru.block (Ru.r1 fun P hP => ?_))
      simp -implicitDefEqProofs (disch := first | decide | omega) [hk2.e, hk.e, e0, e3, e4, e5, hix, hgc 4 _ rfl, hix2, hw4, buildS_eq, hfill, hA]
      refine Rg.ret (hP _ _ ?_)
      clear hP P
      simp only [Then, Out]
      refine Ru.r1 fun P hP => ?_
      simp -implicitDefEqProofs (disch := first | decide | omega) [e5]
      have htk : allR l i ++ g.rows.take (k + 1) = (allR l i ++ g.rows.take k) ++ [row] := by
        rw [List.take_add_one, hrk, List.append_assoc]; rfl
      refine Rg.ret (hP _ _ ⟨by repeat first | exact hk2 | refine Keep.up (by rfl) ?_, k + 1, by omega, by omega, rfl, g3.fr hf hGw.sid k1.wf, w', by simp (disch := first | decide | omega), ?_, ?_⟩)
      · rw [htk, List.length_append, List.flatMap_append]; simpa using g1
      · rw [htk, List.length_append]; exact g2
    · simp at h
      have hkk : k = g.rows.length := by omega
      subst hkk
      rw [List.take_length, ← allR_succ hgi] at hW hGw
      simp only [Then, Out, if_true]
      refine Ru.r1 fun P hP => ?_
      simp -implicitDefEqProofs (disch := first | decide | omega) [hk2.e, e4]
      exact Rg.ret (hP _ _ ⟨by repeat first | exact .via (by rfl) hk2 hk | refine Keep.up (by rfl) ?_, i + 1, by omega, by omega, rfl, hf, w, by simp (disch := first | decide | omega) [e3], hW, hGw⟩)
  simp at h
  have hil : i = l.length := by omega
  subst hil
  simp only [Then, Out, if_true]
  have hRl := allR_len hr2 l.length
  have hAR : allR l l.length = remR l 0 := by unfold allR remR; rw [List.take_length, List.drop_zero]
  rw [hAR] at hW
  have hf1 := k1.trans hf
  have hll : l.length ≤ 24 := h24
  -- both Joins
  refine Ru.rs fun P hP => ?_
  simp -implicitDefEqProofs (disch := first | decide | omega) [hk.e, e0]
  refine Rg.call (Ca.none rfl (join_ok (glo_of hf1.wf (holdsAll_fr hf1 hh)) (hl.fr hf) h24 hr)) fun v2 s2 h2 => ?_
  obtain ⟨k2, hJ1⟩ := h2
  have hJ1' := hJ1
  obtain ⟨c1, ee1, rfl, _⟩ := hJ1'
  have hc1 : c1.length = 5 := by
    obtain ⟨c1', e1', he, hh1⟩ := hJ1
    simp only [V.tup.injEq, List.cons.injEq, Prod.mk.injEq, true_and, and_true] at he
    obtain ⟨rfl, _⟩ := he
    rcases hh1 with ⟨_, rfl, _⟩ | ⟨_, _, rfl, _⟩ | ⟨_, _, _, y, rfl, _⟩ <;> rfl
  have hst1 : ∀ K : St → R, sto (new s2 [is 0, is 0, is 0, is 0, zn]) 5 (V.sc (S.ptr s2.next 0)) (.agg c1) K = K (wr (new s2 [is 0, is 0, is 0, is 0, zn]) s2.next 0 c1) := fun K => sto_new K hc1 rfl
  simp -implicitDefEqProofs (disch := first | decide | omega) [hst1]
  refine Rg.ret (hP _ _ ?_)
  clear hP P hst1
  have k3 := fr_mk k2.wf [is 0, is 0, is 0, is 0, zn] c1
  have b6 : Bx (wr (new s2 [is 0, is 0, is 0, is 0, zn]) s2.next 0 c1) s2.next c1 := Bx.mk' (by rw [hc1]; rfl)
  have hf3 := hf.trans (k2.trans k3)
  have k13 := k1.trans hf3
  generalize wr (new s2 [is 0, is 0, is 0, is 0, zn]) s2.next 0 c1 = s3 at *
  generalize i6e : s2.next = i6 at *
  refine Ru.rs fun P hP => ?_
  simp -implicitDefEqProofs (disch := first | decide | omega) [hk.e, e0]
  refine Rg.call (Ca.none rfl (refJoin_ok (glo_of k13.wf (holdsAll_fr k13 hh)) (hl.fr hf3) h24 hr)) fun v4 s4 h4 => ?_
  obtain ⟨k4, hJ2⟩ := h4
  obtain ⟨a1, a2, a3, a4, y1, y2, LL, ee, hv1, rfl, hy1, hy2, hLL⟩ := join_same hJ1 hJ2 (k3.trans k4)
  simp only [V.tup.injEq, List.cons.injEq, Prod.mk.injEq, true_and, and_true] at hv1
  obtain ⟨rfl, hee⟩ := hv1
  have hee : ee1 = ee := by injection hee
  subst hee
  have hst2 : ∀ K : St → R, sto (new s4 [is 0, is 0, is 0, is 0, zn]) 5 (V.sc (S.ptr s4.next 0)) (.agg [is a1, is a2, is a3, is a4, y2]) K = K (wr (new s4 [is 0, is 0, is 0, is 0, zn]) s4.next 0 [is a1, is a2, is a3, is a4, y2]) := fun K => sto_new K rfl rfl
  simp -implicitDefEqProofs (disch := first | decide | omega) [hst2]
  refine Rg.ret (hP _ _ ?_)
  clear hP P hst2
  have k5 := fr_mk k4.wf [is 0, is 0, is 0, is 0, zn] [is a1, is a2, is a3, is a4, y2]
  have b8 : Bx (wr (new s4 [is 0, is 0, is 0, is 0, zn]) s4.next 0 [is a1, is a2, is a3, is a4, y2]) s4.next [is a1, is a2, is a3, is a4, y2] := Bx.mk' rfl
  have b6a := (b6.fr k4).fr k5
  have hf5 := hf3.trans (k4.trans k5)
  have k15 := k1.trans hf5
  have hy1a := (show RepRows s4 y1 LL from hy1).fr k5
  have hy2a := (show RepRows s4 y2 LL from hy2).fr k5
  generalize wr (new s4 [is 0, is 0, is 0, is 0, zn]) s4.next 0 [is a1, is a2, is a3, is a4, y2] = s5 at *
  generalize i8e : s4.next = i8 at *
  -- both Groups
  refine Ru.rs fun P hP => ?_
  simp -implicitDefEqProofs (disch := first | decide | omega) [hk.e, e0]
  refine Rg.call (Ca.none rfl (groups_ok (glo_of k15.wf (holdsAll_fr k15 hh)) (hl.fr hf5) h24 hr)) fun v6 s6 h6 => ?_
  obtain ⟨k6, hG1⟩ := h6
  have hG1' := hG1
  obtain ⟨z1, eg1, rfl, _⟩ := hG1'
  simp -implicitDefEqProofs (disch := first | decide | omega)
  refine Rg.ret (hP _ _ ?_)
  clear hP P
  have hf6 := hf5.trans k6
  have k16 := k1.trans hf6
  refine Ru.rs fun P hP => ?_
  simp -implicitDefEqProofs (disch := first | decide | omega) [hk.e, e0]
  refine Rg.call (Ca.none rfl (refGroups_ok (glo_of k16.wf (holdsAll_fr k16 hh)) (hl.fr hf6) h24 hr)) fun v7 s7 h7 => ?_
  obtain ⟨k7, hG2⟩ := h7
  obtain ⟨z1', z2, A, B, eg, hv6, rfl, hA, hB, hAB, hAl, hAe⟩ := groups_same hG1 hG2 k7 h24
  simp only [V.tup.injEq, List.cons.injEq, Prod.mk.injEq, true_and, and_true] at hv6
  obtain ⟨rfl, heg⟩ := hv6
  have heg : eg1 = eg := by injection heg
  subst heg
  simp -implicitDefEqProofs (disch := first | decide | omega)
  refine Rg.ret (hP _ _ ?_)
  clear hP P
  have hf7 := hf6.trans k7
  have k17 := k1.trans hf7
  have b6b := (b6a.fr k6).fr k7
  have b8b := (b8.fr k6).fr k7
  -- they are compared
  refine Ru.seq (Ru.rs fun P hP => ?_)
  simp -implicitDefEqProofs (disch := first | decide | omega) [b6b.N (n := 5) rfl, b8b.N (n := 5) rfl]
  refine Rg.call (Ca.none rfl (sameGates_ok k17.wf a1 a2 a3 a4 ((hy1a.fr k6).fr k7) ((hy2a.fr k6).fr k7) (by omega))) fun v8 s8 h8 => ?_
  obtain ⟨k8, rfl⟩ := h8
  simp -implicitDefEqProofs (disch := first | decide | omega)
  refine Rg.call (Ca.none rfl (sameGroups_ok k8.wf (hA.fr k8) (hB.fr k8) (by omega) (fun x hx => by have := hAe x hx; omega) hAB)) fun v9 s9 h9 => ?_
  obtain ⟨hs9, rfl⟩ := h9
  subst s9
  simp -implicitDefEqProofs (disch := first | decide | omega)
  refine Rg.ret (hP _ _ (Ru.cond rfl (fun h => by cases h) fun h => Ru.skip ?_))
  clear hP P
  have hf8 := hf7.trans k8
  have k18 := k1.trans hf8
  have hW8 := hW.fr (((((k2.trans k3).trans (k4.trans k5)).trans k6).trans k7).trans k8)
  -- the programs that were passed are unchanged
  refine Ru.seq (Ru.rs fun P hP => Rg.ret (hP _ _ ?_))
  clear hP P
  refine Ru.at (fun ρ' => ρ' q0 = .sc x ∧ ρ' q3 = .sc w ∧ ρ' q14 = iv 0) ⟨by simp (disch := first | decide | omega) [hk.e, e0], by simp (disch := first | decide | omega) [e3], rfl⟩ fun ρ4 hE => ?_
  clear hk e0 e3 e4 ρ b6 b8 b6a b6b b8b
  obtain ⟨e0, e3, e14⟩ := hE
  have hW0 : Sat s8 w (remR l 0).length 4 ((remR l 0).flatMap wC) := hW8
  clear hW hW8 hGw
  refine Ru.block (Ru.lp [q0] (fun i : Nat => l.length - i) (fun i ρ s => i ≤ l.length ∧ ρ q14 = iv i ∧ s = s8 ∧ ∃ w, ρ q3 = .sc w ∧ Sat s8 w (remR l i).length 4 ((remR l i).flatMap wC))
    ⟨0, by omega, e14, rfl, w, e3, hW0⟩ fun i ρ s hk hI => ?_)
  clear e3 e14 hW0
  obtain ⟨hi, e14, hs, w, e3, hW⟩ := hI
  subst s
  have hl8 := hl.fr hf8
  refine Ru.seq (Ru.rs fun P hP => ?_)
  simp -implicitDefEqProofs (disch := first | decide | omega) [hk.e, e0, e14, lnS_sat hl8.sat]
  refine Rg.ret (hP _ _ ?_)
  clear hP P
  refine Ru.cond rfl (fun h => Ru.skip ?_) fun h => Ru.exit ?_
  rotate_left
  · simp only [Then, Out, if_true]
    refine Ru.rs fun P hP => ?_
    simp -implicitDefEqProofs (disch := first | decide | omega)
    refine Rg.call (works_ok (holdsAll_fr k18 hh)) fun v s' h => ?_
    obtain ⟨rfl, hs'⟩ := h
    subst s'
    exact Rg.ret (hP _ _ (Ru.ret (hQ _ _ rfl)))
  simp at h
  have hgi := List.getElem?_eq_getElem (show i < l.length by omega)
  have hmem := List.getElem_mem (show i < l.length by omega)
  generalize l[i] = g at hgi hmem
  rw [remR_cons hgi] at hW
  have hgr := hr2 g hmem
  have hrr := hl8.rows g hmem
  obtain ⟨rid, ro, hix, hgc, _⟩ := elt (f := gC) (z := 5) (fun _ => rfl) hl8.sat hgi
  refine Ru.seq (Ru.block (Ru.rs fun P hP => Rg.ret (hP _ _ ?_)))
  clear hP P
  refine Ru.at (fun ρ' => Keep [q0] ρ' ρ4 ∧ ρ' q14 = iv i ∧ ρ' q3 = .sc w ∧ ρ' q15 = iv 0) ⟨by repeat first | exact hk | refine Keep.up (by rfl) ?_, by simp (disch := first | decide | omega) [e14], by simp (disch := first | decide | omega) [e3], rfl⟩ fun ρ5 hE => ?_
  clear hk e14 e3 ρ
  obtain ⟨hk, e14, e3, e15⟩ := hE
  refine Ru.block (Ru.lp [q0, q14] (fun k : Nat => g.rows.length - k) (fun k ρ s => k ≤ g.rows.length ∧ ρ q15 = iv k ∧ s = s8 ∧ ∃ w, ρ q3 = .sc w ∧ Sat s8 w (g.rows.drop k ++ remR l (i + 1)).length 4 ((g.rows.drop k ++ remR l (i + 1)).flatMap wC))
    ⟨0, by omega, e15, rfl, w, e3, by simpa using hW⟩ fun k ρ s hk2 hI => ?_)
  clear e3 e15 hW
  obtain ⟨hkl, e15, hs, w, e3, hW⟩ := hI
  subst s
  refine Ru.seq (Ru.rs fun P hP => ?_)
  simp -implicitDefEqProofs (disch := first | decide | omega) [hk2.e, hk.e, e0, e14, e15, hix, hgc 4 _ rfl, lnS_sat hrr]
  refine Rg.ret (hP _ _ ?_)
  clear hP P
  refine Ru.cond rfl (fun h => Ru.skip ?_) fun h => Ru.exit ?_
  rotate_left
  · simp at h
    have hkk : k = g.rows.length := by omega
    subst hkk
    rw [List.drop_length, List.nil_append] at hW
    simp only [Then, Out, if_true]
    refine Ru.r1 fun P hP => ?_
    simp -implicitDefEqProofs (disch := first | decide | omega) [hk2.e, e14]
    exact Rg.ret (hP _ _ ⟨by repeat first | exact .via (by rfl) hk2 hk | refine Keep.up (by rfl) ?_, i + 1, by omega, by omega, rfl, rfl, w, by simp (disch := first | decide | omega) [e3], hW⟩)
  simp at h
  have hkr : k < g.rows.length := by omega
  have hrk := List.getElem?_eq_getElem hkr
  have hdr := List.drop_eq_getElem_cons hkr
  generalize g.rows[k] = row at hrk hdr
  rw [hdr, List.cons_append] at hW
  obtain ⟨rid2, ro2, hix2, hgc2, _⟩ := elt (f := gateC) (z := 11) (fun _ => rfl) hrr hrk
  have hw4 : rdN s8 rid2 (ro2 + 1) 4 = some (wC row) := rdN_get rfl fun j x hx => by
    have hj : j < 4 := by have := (List.getElem?_eq_some_iff.1 hx).1; simpa using this
    rw [Nat.add_assoc]
    refine hgc2 (1 + j) x ?_
    rcases (show j = 0 ∨ j = 1 ∨ j = 2 ∨ j = 3 by omega) with rfl | rfl | rfl | rfl <;> exact hx
  obtain ⟨wid, wo, hwx, hwc, _⟩ := elt (f := wC) (z := 4) (i := 0) (fun _ => rfl) hW rfl
  have hwx' : ∀ K, ixs 4 (V.sc w) (iv 0) K = K (.sc (.ptr wid wo)) := fun K => hwx K
  have hw0 : rdN s8 wid wo 4 = some (wC row) := rdN_get rfl hwc
  obtain ⟨e, he, hee⟩ := eqv_ints (st := s8) (wires_ints row) (ts := [1, 1, 1, 1]) rfl
  rw [hee.2 rfl] at he
  refine Ru.seq (Ru.block (Ru.seq (Ru.ds fun P hP => ?_)))
  simp -implicitDefEqProofs (disch := first | decide | omega) [hk2.e, hk.e, e0, e3, e14, e15, hix, hgc 4 _ rfl, hix2, hw4, hwx', hw0, he]
  refine Rg.ret (hP _ _ (Ru.cond rfl (fun h => by cases h) fun h => Ru.skip ?_))
  clear hP P
  obtain ⟨w', hcut, _, hw'⟩ := sliceS_sat hW (some 1) none (by simp) (by simp)
  have hcut' : ∀ (c : CallK) (r : Ev) (K : V → St → R), h_op3_sliceS 4 (.c (.sc w)) (some (.c (iv 1))) none none c r s8 K = K (.sc w') s8 := hcut
  refine Ru.r1 fun P hP => ?_
  simp -implicitDefEqProofs (disch := first | decide | omega) [e3, hcut']
  refine Rg.ret (hP _ _ ?_)
  clear hP P
  simp only [Then, Out]
  refine Ru.r1 fun P hP => ?_
  simp -implicitDefEqProofs (disch := first | decide | omega) [e15]
  refine Rg.ret (hP _ _ ⟨by repeat first | exact hk2 | refine Keep.up (by rfl) ?_, k + 1, by omega, by omega, rfl, rfl, w', by simp (disch := first | decide | omega), ?_⟩)
  generalize g.rows.drop (k + 1) ++ remR l (i + 1) = R at hw' ⊢
  have hx : List.take (((row :: R).length - 1) * 4) (List.drop (1 * 4) ((row :: R).flatMap wC)) = R.flatMap wC := by
    rw [List.flatMap_cons]
    show List.take _ (R.flatMap wC) = _
    apply List.take_of_length_le
    rw [flat_len (z := 4) (fun _ => rfl)]
    simp
  have hw'' : Sat s8 w' ((row :: R).length - 1) 4 (List.take (((row :: R).length - 1) * 4) (List.drop (1 * 4) ((row :: R).flatMap wC))) := hw'
  rw [hx] at hw''
  simpa using hw''
theorem joins_runs {st : St} (hw : WfS st) (hh : holdsAll st.heap l0 = true) {x : S} {l : List GatesD} (hl : RepGs st x l)
    (hlen : l.length < 9223372036854775808) (hr : ∀ g ∈ l, g.rows.length < 9223372036854775808) :
    ∃ k, callK F (runO l0 O0 F k) 4 [.sc x] st saysTrue = .done .normal .leaf ⟨.leaf, 0, 0⟩ := by
  obtain ⟨x', t, s', ⟨rfl, h1⟩, n, h2⟩ := joins_law hw hh hl hlen hr (fun x ρ s' => x = .ret ∧ ρ q2 = bl true) (fun ρ s' h => ⟨rfl, h⟩) (setLp [q0] [.sc x] .leaf) (by rw [rho_setLp, rho_leaf])
  refine ⟨n, ?_⟩
  show setL [q0] [.sc x] .leaf (fun tm => retK cf4.results saysTrue (runO l0 O0 F n cf4.body tm st)) = _
  rw [setL_eq', ← runC_O, h2 n (Nat.le_refl _)]
  show fin1 saysTrue s' [rho t q2] = _
  rw [h1]; rfl
end Go.Proofs.YticfndhcbjcklaaDoor.Ev
namespace Go.Proofs.YticfndhcbjcklaaDoor.Ev
open Go.RowKit Go.Proofs Go.ChangeShapes Go.WideShapes
set_option linter.unusedSimpArgs false
set_option linter.unusedVariables false
abbrev gateTy : Ty := .pair .u8 (.pair (.pair .i64 (.pair .i64 (.pair .i64 (.pair .i64 .unit)))) (.pair .u64 (.pair .u64 (.pair .u64 (.pair .u64 (.pair .u64 (.pair .i64 .unit)))))))
abbrev gatesTy : Ty := .pair .i64 (.pair .i64 (.pair .i64 (.pair .i64 (.pair (.slice gateTy) .unit))))
theorem ty22 : tyOf Tryd.prog 9 22 = some (.slice gatesTy) := by kernel_rfl
theorem ty23 : tyOf Tryd.prog 9 23 = some (.slice (.slice .u64)) := by kernel_rfl
theorem gate_of {st : St} {le : List S} {y : gateTy.den} (h : RepTy gateTy st le y) : ∃ g : GateD, le = gateC g ∧ True := by
  obtain ⟨k, ⟨w0, w1, w2, w3, u1⟩, a0, a1, a2, a3, a4, r, u2⟩ := y
  obtain ⟨l0, l1, rfl, h0, l2, l3, rfl, h1, h2⟩ := h
  obtain ⟨m0, m1, rfl, e0, m2, m3, rfl, e1, m4, m5, rfl, e2, m6, m7, rfl, e3, e4⟩ := h1
  obtain ⟨b0, b1, rfl, f0, b2, b3, rfl, f1, b4, b5, rfl, f2, b6, b7, rfl, f3, b8, b9, rfl, f4, b10, b11, rfl, f5, f6⟩ := h2
  have h0 : Ru8 l0 k := h0
  have e0 : Ri64 m0 w0 := e0
  have e1 : Ri64 m2 w1 := e1
  have e2 : Ri64 m4 w2 := e2
  have e3 : Ri64 m6 w3 := e3
  have e4 : m7 = [] := e4
  have f0 : Ru64 b0 a0 := f0
  have f1 : Ru64 b2 a1 := f1
  have f2 : Ru64 b4 a2 := f2
  have f3 : Ru64 b6 a3 := f3
  have f4 : Ru64 b8 a4 := f4
  have f5 : Ri64 b10 r := f5
  have f6 : b11 = [] := f6
  refine ⟨⟨k, fun i => ([w0, w1, w2, w3] : List Int).getD i 0, fun i => ([a0, a1, a2, a3, a4] : List Nat).getD i 0, r⟩, ?_, trivial⟩
  rw [h0.1, e0.1, e1.1, e2.1, e3.1, e4, f0.1, f1.1, f2.1, f3.1, f4.1, f5.1, f6]
  rfl
theorem gates_of {st : St} {le : List S} {y : gatesTy.den} (h : RepTy gatesTy st le y) : ∃ g : GatesD, le = gC g ∧ RepRows st g.sl g.rows ∧ g.rows.length < 9223372036854775808 := by
  obtain ⟨a, b, c, d, rs, u⟩ := y
  obtain ⟨l0, l1, rfl, h0, l2, l3, rfl, h1, l4, l5, rfl, h2, l6, l7, rfl, h3, l8, l9, rfl, h4, h5⟩ := h
  have h0 : Ri64 l0 a := h0
  have h1 : Ri64 l2 b := h1
  have h2 : Ri64 l4 c := h2
  have h3 : Ri64 l6 d := h3
  have h4 : SlRep gateTy.z (RepTy gateTy) st l8 rs := h4
  have h5 : l9 = [] := h5
  obtain ⟨s, bs, rfl, e1, e2, e3, _⟩ := h4.conv (f := gateC) (G := fun _ => True) (by decide) fun le y _ h => gate_of h
  refine ⟨⟨a, b, c, d, bs, s⟩, ?_, e3, Nat.lt_of_le_of_lt e2 (by decide)⟩
  rw [h0.1, h1.1, h2.1, h3.1, h5]
  rfl
theorem gs_of {st : St} {l : List S} {y : (Ty.slice gatesTy).den} (h : RepTy (.slice gatesTy) st l y) : ∃ s L, l = [s] ∧ RepGs st s L ∧ L.length < 9223372036854775808 ∧ ∀ g ∈ L, g.rows.length < 9223372036854775808 := by
  have h : SlRep gatesTy.z (RepTy gatesTy) st l y := h
  obtain ⟨s, bs, rfl, e1, e2, e3, e4⟩ := h.conv (f := gC) (G := fun g => RepRows st g.sl g.rows ∧ g.rows.length < 9223372036854775808) (by decide) fun le y _ h => gates_of h
  exact ⟨s, bs, rfl, ⟨e3, fun g hg => (e4 g hg).1⟩, Nat.lt_of_le_of_lt e2 (by decide), fun g hg => (e4 g hg).2⟩
theorem ns_of {st : St} {l : List S} {y : (Ty.slice .u64).den} (h : RepTy (.slice .u64) st l y) : ∃ s, ∃ L : List Nat, l = [s] ∧ RepN st s L ∧ L.length < 9223372036854775808 := by
  have h : SlRep 1 (RepTy .u64) st l y := h
  obtain ⟨s, bs, rfl, e1, e2, e3, e4⟩ := h.conv (f := fun n : Nat => [us n]) (G := fun _ => True) (by decide) fun le y _ h => ⟨y, (show Ru64 le y from h).1, trivial⟩
  exact ⟨s, bs, rfl, by unfold RepN; rw [map_flat]; exact e3, Nat.lt_of_le_of_lt e2 (by decide)⟩
theorem ls_of {st : St} {l : List S} {y : (Ty.slice (.slice .u64)).den} (h : RepTy (.slice (.slice .u64)) st l y) : ∃ s L, l = [s] ∧ RepLs st s L ∧ L.length < 9223372036854775808 ∧ ∀ e ∈ L, e.ns.length < 9223372036854775808 := by
  have h : SlRep 1 (RepTy (.slice .u64)) st l y := h
  obtain ⟨s, bs, rfl, e1, e2, e3, e4⟩ := h.conv (f := fun e : NsD => [e.sl]) (G := fun e => RepN st e.sl e.ns ∧ e.ns.length < 9223372036854775808) (by decide) fun le y _ h => by
    obtain ⟨s, L, rfl, h1, h2⟩ := ns_of h
    exact ⟨⟨L, s⟩, rfl, h1, h2⟩
  exact ⟨s, bs, rfl, ⟨by rw [map_flat]; exact e3, fun e he => (e4 e he).1⟩, Nat.lt_of_le_of_lt e2 (by decide), fun e he => (e4 e he).2⟩
end Go.Proofs.YticfndhcbjcklaaDoor.Ev
