/- What the listed package variables hold, and the evaluator's runs, by the kernel; no conditions. -/
import Derived.Test.YticfndhcbjcklaaDoorMe
namespace Go.Proofs.YticfndhcbjcklaaDoor.Ev
set_option linter.unusedSimpArgs false
set_option linter.unusedVariables false
variable {st s t : St} {n i id off : Nat}
/-- what the reference's Join keeps in memory -/
structure JR (st s : St) (i2 i4 : Nat) (fld v p sc : Int) (y : S) (rs : List GateD) : Prop where
  fr : Fr st s
  b2 : Bx s i2 [is 0, is 0, is 0, is 0, zn]
  b4 : Bx s i4 [is fld, is v, is p, is sc, y]
  sat : Sat s y rs.length 11 (rs.flatMap gateC)
  grw : Grw (i4 + 1) s y rs.length 11
variable {i2 i4 : Nat} {fld v p sc : Int} {y : S} {rs : List GateD}
theorem JR.go (h : JR st s i2 i4 fld v p sc y rs) (k : Fr s t) : JR st t i2 i4 fld v p sc y rs := ⟨h.fr.trans k, h.b2.fr k, h.b4.fr k, h.sat.fr k, h.grw.fr k⟩
theorem JR.kp {j : Nat} (h : JR st s i2 i4 fld v p sc y rs) (hw : WfS st) (k : Kp (some j) s t) (hj : st.next ≤ j) (h2 : j ≠ i2) (h4 : j ≠ i4) (hy : sid y ≠ some j) : JR st t i2 i4 fld v p sc y rs :=
  ⟨k.fr h.fr (fun id he => by cases he; exact hj) hw, h.b2.kp k (ne_some h2), h.b4.kp k (ne_some h4), h.sat.keep k (fun id he => by cases he; exact hy), h.grw.keep k (fun id he => by cases he; exact hy)⟩
/-- one of the sums -/
theorem JR.set1 (h : JR st s i2 i4 fld v p sc y rs) (hw : WfS st) (h24 : i2 < i4) (hst : st.next ≤ i2) (x : Int) : JR st (wr s i4 1 [is x]) i2 i4 fld x p sc y rs := by
  have k := h.b4.kpw h.fr.wf (i := 1) [is x]
  have hy : ∀ id, some i4 = some id → sid y ≠ some id := fun id he hh => by cases he; have := h.grw.sid _ hh; omega
  exact ⟨k.fr h.fr (fun id he => by cases he; omega) hw, h.b2.kp k (ne_some (by omega)), h.b4.set (i := 1) (by simp) (is x), h.sat.keep k hy, h.grw.keep k hy⟩
theorem JR.set2 (h : JR st s i2 i4 fld v p sc y rs) (hw : WfS st) (h24 : i2 < i4) (hst : st.next ≤ i2) (x : Int) : JR st (wr s i4 2 [is x]) i2 i4 fld v x sc y rs := by
  have k := h.b4.kpw h.fr.wf (i := 2) [is x]
  have hy : ∀ id, some i4 = some id → sid y ≠ some id := fun id he hh => by cases he; have := h.grw.sid _ hh; omega
  exact ⟨k.fr h.fr (fun id he => by cases he; omega) hw, h.b2.kp k (ne_some (by omega)), h.b4.set (i := 2) (by simp) (is x), h.sat.keep k hy, h.grw.keep k hy⟩
theorem JR.set3 (h : JR st s i2 i4 fld v p sc y rs) (hw : WfS st) (h24 : i2 < i4) (hst : st.next ≤ i2) (x : Int) : JR st (wr s i4 3 [is x]) i2 i4 fld v p x y rs := by
  have k := h.b4.kpw h.fr.wf (i := 3) [is x]
  have hy : ∀ id, some i4 = some id → sid y ≠ some id := fun id he hh => by cases he; have := h.grw.sid _ hh; omega
  exact ⟨k.fr h.fr (fun id he => by cases he; omega) hw, h.b2.kp k (ne_some (by omega)), h.b4.set (i := 3) (by simp) (is x), h.sat.keep k hy, h.grw.keep k hy⟩
theorem JR.app (h : JR st s i2 i4 fld v p sc y rs) (hw : WfS st) (h24 : i2 < i4) (hst : st.next ≤ i2) (r : GateD) (hc : rs.length + 1 ≤ 200000) :
    ∃ y' s' s2, (∀ (cl : CallK) (ρ : Ev) (K : V → St → R), xA 11 88 (.sc y) (.sc (.slice s.next 0 1 (some 1) 11)) cl ρ (new s (gateC r)) K = K (.sc y') s') ∧
      (∀ K : St → R, sto s' 1 (.sc (.ptr i4 4)) (.sc y') K = K s2) ∧ JR st s2 i2 i4 fld v p sc y' (rs ++ [r]) := by
  have hlt := h.b4.lt
  obtain ⟨y', s', hA, g1, g2, g3, g4, g5⟩ := app_bld (b := 88) (k := 1) (nc := gateC r) h.fr.wf h.sat h.grw (by omega) (by decide) rfl (by omega) (by omega)
  have hy4 : ∀ j, j ≤ i4 → sid y ≠ some j := fun j hj hh => by have := h.grw.sid _ hh; omega
  have b4' := h.b4.kp g3 (hy4 i4 (Nat.le_refl _))
  have k2 := b4'.kpw g3.wf (i := 4) [y']
  have hf := g3.fr h.fr (fun id he => by have := h.grw.sid _ he; omega) hw
  have hy' : ∀ id, some i4 = some id → sid y' ≠ some id := fun id he hh => by cases he; rw [g4] at hh; cases hh; omega
  refine ⟨y', s', _, hA, fun K => b4'.sto (i := 4) (by simp) _ K, ⟨k2.fr hf (fun id he => by cases he; omega) hw, (h.b2.kp g3 (hy4 i2 (by omega))).kp k2 (ne_some (by omega)), b4'.set (i := 4) (by simp) y', ?_, ?_⟩⟩
  · rw [List.length_append, List.flatMap_append]
    simpa using g1.keep k2 hy'
  · rw [List.length_append]; exact g2.keep k2 hy'
end Go.Proofs.YticfndhcbjcklaaDoor.Ev
namespace Go.Proofs.YticfndhcbjcklaaDoor.Ev
set_option linter.unusedSimpArgs false
set_option linter.unusedVariables false
variable {st s t : St} {n i id off : Nat}
theorem allV_fld {l : List GatesD} (h : AllV l) (hne : l ≠ []) : ∃ g, l[0]? = some g ∧ lastF l = g.field := by
  have hlen : 0 < l.length := List.length_pos_iff.2 hne
  have hlast := List.getElem?_eq_getElem (show l.length - 1 < l.length by omega)
  obtain ⟨_, g0, h1, h2⟩ := h _ _ hlast
  refine ⟨g0, h1, ?_⟩
  rw [← h2]
  unfold lastF
  rw [List.getLast?_eq_getElem?, hlast]
theorem refJoin_ok (hg : Glo st) {x : S} {l : List GatesD} (hl : RepGs st x l) (h24 : l.length ≤ 24) (hr : ∀ g ∈ l, g.rows.length < 9223372036854775808) :
    Ca (cF F) 13 [.sc x] st (fun v s => Fr st s ∧ JoinR l s v) := by
  refine Ca.of (hf := cf13) rfl rfl [q0] [.cellN n5 q2, .tmp q3] rfl rfl rfl fun Q hQ => ?_
  have hw := hg.wf
  have f1 : Fr st (new st [is 0, is 0, is 0, is 0, zn]) := (Fr.refl hw).new _
  have b2 : Bx (new st [is 0, is 0, is 0, is 0, zn]) st.next [is 0, is 0, is 0, is 0, zn] := Bx.new
  refine Ru.rs fun P hP => ?_
  simp -implicitDefEqProofs (disch := first | decide | omega)
  refine Rg.ret (hP _ _ ?_)
  clear hP P
  generalize new st [is 0, is 0, is 0, is 0, zn] = s1 at *
  have bad : ∀ (Q' : X → Ev → St → Prop) (ρ : Ev) (t : St) (V0 : V) (e : Int), Q' .ret = Q .ret → V0 = iv e → Fr s1 t → ρ q2 = .sc (.ptr st.next 0) → (∀ s, JoinR l s (.tup [(true, [is 0, is 0, is 0, is 0, zn]), (false, [is e])])) → Ru (cF F) (.seq (.reg [q3] fun c r s K => h_op3_build [zi, zi, zi, zi, zn] [] c r s fun v0 s => sto s n5 (r q2) v0 fun s => K [V0] s) .ret) ρ t Q' := fun Q' ρ t V0 e he hV k e2 hn => by
    have b2' := b2.fr k
    have hst : ∀ K : St → R, sto t 5 (V.sc (S.ptr st.next 0)) (.agg [is 0, is 0, is 0, is 0, zn]) K = K (wr t st.next 0 [is 0, is 0, is 0, is 0, zn]) := fun K => b2'.stoN (n := 5) rfl rfl K
    refine Ru.rs fun P hP => ?_
    simp -implicitDefEqProofs (disch := first | decide | omega) [build_eq, fill_nil, e2, hst]
    subst hV
    refine Rg.ret (hP _ _ (Ru.ret (he ▸ hQ _ _ (resP.cellsTmp (n := 4) (id := st.next) (off := 0) (b := is e) ?_ ((b2'.setN (l' := [is 0, is 0, is 0, is 0, zn]) rfl).N rfl) rfl ⟨(b2'.kpw k.wf _).fr (f1.trans k) (fun id h => by cases h; exact Nat.le_refl _) hw, hn _⟩))))
    simp (disch := first | decide | omega) [e2]
  refine Ru.seq (Ru.rs fun P hP => ?_)
  by_cases h0 : l.length = 0
  · simp -implicitDefEqProofs (disch := first | decide | omega) [lnS_sat hl.sat]
    refine Rg.ret (hP _ _ ?_)
    exact Ru.cond rfl (fun _ => bad _ _ _ _ 1 rfl rfl (Fr.refl f1.wf) rfl fun s => ⟨_, _, rfl, .inl ⟨fun hh => hh.1 (List.eq_nil_of_length_eq_zero h0), rfl, rfl⟩⟩) fun h => by cases h
  simp -implicitDefEqProofs (disch := first | decide | omega) [lnS_sat hl.sat]
  refine Rg.call (fits_ok (hg.fr f1) (hl.fr f1) (by omega) hr) fun vv s2 hv => ?_
  obtain ⟨k2, bb, rfl, hb1⟩ := hv
  simp -implicitDefEqProofs (disch := first | decide | omega)
  refine Rg.ret (hP _ _ ?_)
  clear hP P
  have f12 := f1.trans k2
  refine Ru.cond rfl (fun h => bad _ _ _ _ 1 rfl rfl k2 rfl fun s => ⟨_, _, rfl, .inl ⟨fun hh => ?_, rfl, rfl⟩⟩) fun h => Ru.skip ?_
  · rw [hb1.2 hh.2] at h; simp at h
  have hV : AllV l := hb1.1 (by cases bb <;> simp at h ⊢)
  have hne : l ≠ [] ∧ AllV l := ⟨fun hh => h0 (by rw [hh]; rfl), hV⟩
  have hB := allV_base hV
  refine Ru.seq (Ru.rs fun P hP => ?_)
  simp -implicitDefEqProofs (disch := first | decide | omega)
  refine Rg.call (refRoom_ok f12.wf (hl.fr f12) h24 hB) fun vv s3 hv => ?_
  obtain ⟨hs3, b3, rfl, hb3⟩ := hv
  subst s3
  simp -implicitDefEqProofs (disch := first | decide | omega)
  refine Rg.ret (hP _ _ ?_)
  clear hP P
  refine Ru.cond rfl (fun h => bad _ _ _ _ 9 rfl rfl k2 rfl fun s => ⟨_, _, rfl, .inr (.inl ⟨hne, fun hh => ?_, rfl, rfl⟩)⟩) fun h => Ru.skip ?_
  · rw [hb3.2 hh] at h; cases h
  simp at h
  have hR := hb3.1 h
  clear bad
  have sB := smB h24 hB
  obtain ⟨z1, z2, z3, z4, z5, z6, z7, z8⟩ := sB
  obtain ⟨g0, hg0, hlf⟩ := allV_fld hV hne.1
  obtain ⟨id0, o0, hix0, hgc0, _⟩ := elt (f := gC) (z := 5) (fun _ => rfl) (hl.fr f12).sat hg0
  have hix0' : ∀ K, ixs 5 (V.sc x) (iv 0) K = K (.sc (.ptr id0 o0)) := fun K => hix0 K
  have m0 : rd s2 id0 o0 = some (is g0.field) := hgc0 0 _ rfl
  have hfill5 : ∀ (a : Int) tm K, fillK tm K [(0, 1, .c (iv a))] [is 0, is 0, is 0, is 0, zn] = K [is a, is 0, is 0, is 0, zn] := fun a tm K => (fill_sc tm K _ 0 (is a) [] (by simp)).trans (by rw [fill_nil]; rfl)
  have hst : ∀ (a : Int) (K : St → R), sto (new s2 [is 0, is 0, is 0, is 0, zn]) 5 (V.sc (S.ptr s2.next 0)) (.agg [is a, is 0, is 0, is 0, zn]) K = K (wr (new s2 [is 0, is 0, is 0, is 0, zn]) s2.next 0 [is a, is 0, is 0, is 0, zn]) := fun a K => sto_new K rfl rfl
  refine Ru.rs fun P hP => ?_
  simp -implicitDefEqProofs (disch := first | decide | omega) [hix0', m0, build_eq, hfill5, hst]
  refine Rg.ret (hP _ _ ?_)
  clear hP P hst hfill5
  rw [← hlf]
  have k5 := fr_mk k2.wf [is 0, is 0, is 0, is 0, zn] [is (lastF l), is 0, is 0, is 0, zn]
  have b4 : Bx (wr (new s2 [is 0, is 0, is 0, is 0, zn]) s2.next 0 [is (lastF l), is 0, is 0, is 0, zn]) s2.next [is (lastF l), is 0, is 0, is 0, zn] := Bx.mk' rfl
  have i24 : st.next < s2.next := (b2.fr k2).lt
  have J0 : JR st (wr (new s2 [is 0, is 0, is 0, is 0, zn]) s2.next 0 [is (lastF l), is 0, is 0, is 0, zn]) st.next s2.next (lastF l) 0 0 0 .nils [] := ⟨f12.trans k5, (b2.fr k2).fr k5, b4, Sat.nil 11, Grw.nil _ _⟩
  clear b4 k5
  generalize wr (new s2 [is 0, is 0, is 0, is 0, zn]) s2.next 0 [is (lastF l), is 0, is 0, is 0, zn] = s5 at *
  generalize s2.next = i4 at *
  refine Ru.seq (Ru.rs fun P hP => Rg.ret (hP _ _ ?_))
  clear hP P
  refine Ru.at (fun ρ => ρ q0 = .sc x ∧ ρ q2 = .sc (.ptr st.next 0) ∧ ρ q4 = .sc (.ptr i4 0) ∧ ρ q5 = iv 0) ⟨rfl, rfl, rfl, rfl⟩ fun ρ1 hE => ?_
  obtain ⟨e0, e2, e4, e5⟩ := hE
  refine Ru.block (Ru.lp [q0, q2, q4] (fun i : Nat => l.length - i) (fun i ρ s => i ≤ l.length ∧ ρ q5 = iv i ∧ ∃ y, JR st s st.next i4 (lastF l) (sm GatesD.vars (l.take i)) (sm GatesD.pub (l.take i)) (sm GatesD.sec (l.take i)) y (joinTo l i))
    ⟨0, by omega, e5, .nils, J0⟩ fun i ρ s hk hI => ?_)
  clear e5 J0
  obtain ⟨hi, e5, y, J⟩ := hI
  refine Ru.seq (Ru.rs fun P hP => ?_)
  simp -implicitDefEqProofs (disch := first | decide | omega) [hk.e, e0, e5, lnS_sat (hl.fr J.fr).sat]
  refine Rg.ret (hP _ _ ?_)
  clear hP P
  refine Ru.cond rfl (fun h => Ru.skip ?_) fun h => Ru.exit ?_
  rotate_left
  · simp at h
    have : i = l.length := by omega
    subst this
    simp only [Then, Out, if_true]
    rw [List.take_length] at J
    have hsN : ∀ K : St → R, sto s 5 (V.sc (S.ptr st.next 0)) (.agg [is (lastF l), is (sm GatesD.vars l), is (sm GatesD.pub l), is (sm GatesD.sec l), y]) K = K (wr s st.next 0 [is (lastF l), is (sm GatesD.vars l), is (sm GatesD.pub l), is (sm GatesD.sec l), y]) := fun K => J.b2.stoN (n := 5) rfl rfl K
    refine Ru.rs fun P hP => ?_
    simp -implicitDefEqProofs (disch := first | decide | omega) [hk.e, e2, e4, J.b4.N (n := 5) rfl, hsN]
    have kw := J.b2.kpw J.fr.wf (i := 0) [is (lastF l), is (sm GatesD.vars l), is (sm GatesD.pub l), is (sm GatesD.sec l), y]
    refine Rg.ret (hP _ _ (Ru.ret (hQ _ _ (resP.cellsTmp (n := 4) (id := st.next) (off := 0) (b := is 0) ?_ ((J.b2.setN (l' := [is (lastF l), is (sm GatesD.vars l), is (sm GatesD.pub l), is (sm GatesD.sec l), y]) rfl).N rfl) rfl ⟨kw.fr J.fr (fun id h => by cases h; exact Nat.le_refl _) hw, ?_⟩))))
    · simp (disch := first | decide | omega) [hk.e, e2]
    · exact ⟨_, _, rfl, .inr (.inr ⟨hne, hR, rfl, _, rfl, J.sat.keep kw fun id he hh => by cases he; have := J.grw.sid _ hh; omega⟩)⟩
  simp at h
  have hlt : i < l.length := by omega
  have hgi := List.getElem?_eq_getElem hlt
  have hmem := List.getElem_mem hlt
  generalize l[i] = g at hgi hmem
  have hBg := hB g hmem
  have hVg := (hV i g hgi).1
  have sBi := smB (l := l.take i) (by rw [List.length_take]; omega) fun g hg => hB g (List.mem_of_mem_take hg)
  obtain ⟨y1, y2, y3, y4, y5, y6, y7, y8⟩ := sBi
  have hrn := sm_split (f := rowsN) hgi fun g hg => by show (0 : Int) ≤ g.rows.length; omega
  have hjl := joinTo_len l i (by omega)
  obtain ⟨_, _, w1, w2, w3, w4, w5, w6, w7⟩ := hBg
  have i4s : i4 < s.next := J.b4.lt
  obtain ⟨rid, ro, hix, hgc, _⟩ := elt (f := gC) (z := 5) (fun _ => rfl) (hl.fr J.fr).sat hgi
  refine Ru.seq (Ru.block (Ru.ds fun P hP => ?_))
  simp -implicitDefEqProofs (disch := first | decide | omega | (apply okS_t; decide; (simp (decide := true) <;> omega))) [hk.e, e0, e4, e5, hix, hgc 1 _ rfl, J.b4.rd 1 _ rfl, dS_ok (n := 5) J.b4.own]
  refine Rg.ret (hP _ _ ?_)
  clear hP P
  have J1 := J.set1 hw i24 (Nat.le_refl _) (sm GatesD.vars (l.take i) + g.vars)
  clear hix hgc J
  generalize wr s i4 1 [is (sm GatesD.vars (l.take i) + g.vars)] = sA at *
  obtain ⟨rid, ro, hix, hgc, _⟩ := elt (f := gC) (z := 5) (fun _ => rfl) (hl.fr J1.fr).sat hgi
  refine Ru.ds fun P hP => ?_
  simp -implicitDefEqProofs (disch := first | decide | omega | (apply okS_t; decide; (simp (decide := true) <;> omega))) [hk.e, e0, e4, e5, hix, hgc 2 _ rfl, J1.b4.rd 2 _ rfl, dS_ok (n := 5) J1.b4.own]
  refine Rg.ret (hP _ _ ?_)
  clear hP P
  have J2 := J1.set2 hw i24 (Nat.le_refl _) (sm GatesD.pub (l.take i) + g.pub)
  clear hix hgc J1
  generalize wr sA i4 2 [is (sm GatesD.pub (l.take i) + g.pub)] = sB at *
  obtain ⟨rid, ro, hix, hgc, _⟩ := elt (f := gC) (z := 5) (fun _ => rfl) (hl.fr J2.fr).sat hgi
  refine Ru.ds fun P hP => ?_
  simp -implicitDefEqProofs (disch := first | decide | omega | (apply okS_t; decide; (simp (decide := true) <;> omega))) [hk.e, e0, e4, e5, hix, hgc 3 _ rfl, J2.b4.rd 3 _ rfl, dS_ok (n := 5) J2.b4.own]
  refine Rg.ret (hP _ _ ?_)
  clear hP P
  have J3 := J2.set3 hw i24 (Nat.le_refl _) (sm GatesD.sec (l.take i) + g.sec)
  clear hix hgc J2
  generalize wr sB i4 3 [is (sm GatesD.sec (l.take i) + g.sec)] = sC at *
  rw [← sm_take hgi, ← sm_take hgi, ← sm_take hgi] at J3
  generalize hVV : sm GatesD.vars (l.take (i + 1)) = vV at *
  generalize hPP : sm GatesD.pub (l.take (i + 1)) = vP at *
  generalize hSS : sm GatesD.sec (l.take (i + 1)) = vS at *
  refine Ru.rs fun P hP => Rg.ret (hP _ _ ?_)
  clear hP P
  refine Ru.at (fun ρ' => Keep [q0, q2, q4] ρ' ρ1 ∧ ρ' q5 = iv i ∧ ρ' q6 = iv 0) ⟨by repeat first | exact hk | refine Keep.up (by rfl) ?_, by simp (disch := first | decide | omega) [e5], rfl⟩ fun ρ2 hE => ?_
  clear hk e5 ρ
  obtain ⟨hk, e5, e6⟩ := hE
  refine Ru.block (Ru.lp [q0, q2, q4, q5] (fun k : Nat => g.rows.length - k) (fun k ρ s => k ≤ g.rows.length ∧ ρ q6 = iv k ∧ ∃ y, JR st s st.next i4 (lastF l) vV vP vS y (joinTo l i ++ (g.rows.take k).map (mvd l i g)))
    ⟨0, by omega, e6, y, by simpa using J3⟩ fun k ρ s hk2 hI => ?_)
  clear e6 J3
  obtain ⟨hkl, e6, y, J⟩ := hI
  obtain ⟨rid, ro, hix, hgc, _⟩ := elt (f := gC) (z := 5) (fun _ => rfl) (hl.fr J.fr).sat hgi
  have hrr := (hl.fr J.fr).rows g hmem
  have i4s : i4 < s.next := J.b4.lt
  refine Ru.seq (Ru.rs fun P hP => ?_)
  simp -implicitDefEqProofs (disch := first | decide | omega) [hk2.e, hk.e, e0, e5, e6, hix, hgc 4 _ rfl, lnS_sat hrr]
  refine Rg.ret (hP _ _ ?_)
  clear hP P
  refine Ru.cond rfl (fun h => Ru.skip ?_) fun h => Ru.exit ?_
  rotate_left
  · simp at h
    have hkl' : k = g.rows.length := by omega
    subst hkl'
    rw [List.take_length, ← joinTo_succ hgi] at J
    simp only [Then, Out, if_true]
    refine Ru.r1 fun P hP => ?_
    simp -implicitDefEqProofs (disch := first | decide | omega) [hk2.e, e5]
    exact Rg.ret (hP _ _ ⟨by repeat first | exact .via (by rfl) hk2 hk | refine Keep.up (by rfl) ?_, i + 1, by omega, by omega, rfl, y, by rw [hVV, hPP, hSS]; exact J⟩)
  simp at h
  have hlt2 : k < g.rows.length := by omega
  obtain ⟨row, hrk, hfm, _⟩ := hVg.rows k hlt2
  obtain ⟨rid2, ro2, hix2, hgc2, hrs2⟩ := elt (f := gateC) (z := 11) (fun _ => rfl) hrr hrk
  have hgN : rdN s rid2 ro2 11 = some (gateC row) := rdN_get rfl hgc2
  have hst : ∀ K : St → R, sto (new s [bs 0, is 0, is 0, is 0, is 0, us 0, us 0, us 0, us 0, us 0, is 0]) 11 (V.sc (S.ptr s.next 0)) (.agg (gateC row)) K = K (wr (new s [bs 0, is 0, is 0, is 0, is 0, us 0, us 0, us 0, us 0, us 0, is 0]) s.next 0 (gateC row)) := fun K => sto_new K rfl rfl
  refine Ru.seq (Ru.block (Ru.rs fun P hP => ?_))
  simp -implicitDefEqProofs (disch := first | decide | omega) [hk2.e, hk.e, e0, e5, e6, hix, hgc 4 _ rfl, hix2, hgN, hst]
  clear hst
  have k3 := fr_mk J.fr.wf [bs 0, is 0, is 0, is 0, is 0, us 0, us 0, us 0, us 0, us 0, is 0] (gateC row)
  have b13 : Bx (wr (new s [bs 0, is 0, is 0, is 0, is 0, us 0, us 0, us 0, us 0, us 0, is 0]) s.next 0 (gateC row)) s.next (gateC row) := Bx.mk' rfl
  refine Rg.ret (hP _ _ ?_)
  clear hP P
  have J1 := J.go k3
  have hys : sid y ≠ some s.next := fun hh => by have := J.grw.lt J.fr.wf _ hh; omega
  have hsn : st.next ≤ s.next := J.fr.next
  clear J hgN hgc hgc2 hrr hix hix2
  generalize wr (new s [bs 0, is 0, is 0, is 0, is 0, us 0, us 0, us 0, us 0, us 0, is 0]) s.next 0 (gateC row) = sB2 at *
  generalize s.next = i13 at *
  refine Ru.seq (Ru.rs fun P hP => Rg.ret (hP _ _ ?_))
  clear hP P
  refine Ru.at (fun ρ' => Keep [q0, q2, q4, q5] ρ' ρ2 ∧ ρ' q6 = iv k ∧ ρ' q7 = .sc (.ptr i13 0) ∧ ρ' q8 = iv 0) ⟨by repeat first | exact hk2 | refine Keep.up (by rfl) ?_, by simp (disch := first | decide | omega) [e6], rfl, rfl⟩ fun ρ3 hE => ?_
  clear hk2 e6 ρ
  obtain ⟨hk2, e6, e7, e8⟩ := hE
  refine (Ru.imp (Q := fun x ρ u => x = .normal ∧ Keep [q0, q2, q4, q5, q6, q7] ρ ρ3 ∧ Bx u i13 (gateC (mvd l i g row)) ∧ JR st u st.next i4 (lastF l) vV vP vS y (joinTo l i ++ (g.rows.take k).map (mvd l i g))) ?_ fun x ρ u hx => ?_)
  · refine Ru.block (Ru.lp [q0, q2, q4, q5, q6, q7] (fun j : Nat => 4 - j) (fun j ρ u => j ≤ 4 ∧ ρ q8 = iv j ∧ Bx u i13 (gateC (partG (aI l i) (bI l i) (cI l i) g row j)) ∧ JR st u st.next i4 (lastF l) vV vP vS y (joinTo l i ++ (g.rows.take k).map (mvd l i g)))
      ⟨0, by omega, e8, b13, J1⟩ fun j ρ u hk3 hI => ?_)
    clear e8 b13 J1
    obtain ⟨hj, e8, b13, J⟩ := hI
    refine Ru.seq (Ru.rs fun P hP => ?_)
    simp -implicitDefEqProofs (disch := first | decide | omega) [e8]
    refine Rg.ret (hP _ _ ?_)
    clear hP P
    refine Ru.cond rfl (fun h => Ru.skip ?_) fun h => Ru.exit ?_
    rotate_left
    · simp at h
      have : j = 4 := by omega
      subst this
      simp only [Then, Out, if_true]
      exact ⟨trivial, by repeat first | exact .via (by rfl) hk3 (.refl _ _) | refine Keep.up (by rfl) ?_, b13, J⟩
    simp at h
    have hj4 : j < 4 := by omega
    have hwj := hfm.2.2.2.2.2.2 j hj4
    have hld : rd u i13 (1 + j) = some (is (row.w j)) := b13.rd (1 + j) _ (by
      rcases (show j = 0 ∨ j = 1 ∨ j = 2 ∨ j = 3 by omega) with rfl | rfl | rfl | rfl <;> rfl)
    have b13s : ∀ (x : Int) (K : St → R), sto u 1 (V.sc (S.ptr i13 (1 + j))) (.sc (is x)) K = K (wr u i13 (1 + j) [is x]) := fun x K => b13.sto (i := 1 + j) (by simp; omega) _ K
    refine Ru.seq (Ru.block (Ru.r1 fun P hP => ?_))
    simp -implicitDefEqProofs (disch := first | decide | omega) [hk3.e, hk2.e, hk.e, e0, e5, e7, e8, hld]
    refine Rg.call (Place_ok J.fr.wf (hl.fr J.fr) h24 hB hgi (row.w j) ⟨hwj.1, by omega⟩) fun v s' hv => ?_
    obtain ⟨hs', rfl⟩ := hv
    subst s'
    simp -implicitDefEqProofs (disch := first | decide | omega) [b13s]
    refine Rg.ret (hP _ _ ?_)
    clear hP P
    simp only [Then, Out]
    have kw := b13.kpw J.fr.wf (i := 1 + j) [is (placeV g.pub g.sec (aI l i) (bI l i) (cI l i) (row.w j))]
    have b13' := b13.set (i := 1 + j) (by simp; omega) (is (placeV g.pub g.sec (aI l i) (bI l i) (cI l i) (row.w j)))
    have hset : (gateC (partG (aI l i) (bI l i) (cI l i) g row j)).set (1 + j) (is (placeV g.pub g.sec (aI l i) (bI l i) (cI l i) (row.w j))) = gateC (partG (aI l i) (bI l i) (cI l i) g row (j + 1)) := partG_set _ _ _ _ _ _ hj4
    rw [hset] at b13'
    refine Ru.r1 fun P hP => ?_
    simp -implicitDefEqProofs (disch := first | decide | omega) [e8]
    exact Rg.ret (hP _ _ ⟨by repeat first | exact hk3 | refine Keep.up (by rfl) ?_, j + 1, by omega, by omega, rfl, b13', J.kp hw kw (by omega) (by omega) (by omega) hys⟩)
  obtain ⟨rfl, hk3, b13, J⟩ := hx
  have hlk : (joinTo l i ++ (g.rows.take k).map (mvd l i g)).length = (joinTo l i).length + k := by
    rw [List.length_append, List.length_map, List.length_take]; omega
  have hrw : rowsN g = (g.rows.length : Int) := rfl
  obtain ⟨y', s', s2, hA, hS, J2⟩ := J.app hw i24 (Nat.le_refl _) (mvd l i g row) (by omega)
  have hbN := b13.N (n := 11) rfl
  have hfill : ∀ tm K, fillK tm K [(0, 11, .c (.agg (gateC (mvd l i g row))))] [bs 0, is 0, is 0, is 0, is 0, us 0, us 0, us 0, us 0, us 0, is 0] = K (gateC (mvd l i g row)) := fun tm K => (fill_agg tm K _ 0 (gateC (mvd l i g row)) 11 [] rfl (by simp)).trans (by rw [fill_nil]; rfl)
  have hrs1 : joinTo l i ++ (g.rows.take (k + 1)).map (mvd l i g) = (joinTo l i ++ (g.rows.take k).map (mvd l i g)) ++ [mvd l i g row] := by
    rw [List.take_add_one, hrk, List.map_append, List.append_assoc]; rfl
  generalize joinTo l i ++ (g.rows.take k).map (mvd l i g) = rs at *
  simp only [Then]
  refine Ru.r1 fun P hP => ?_
  simp -implicitDefEqProofs (disch := first | decide | omega) [hk3.e, hk2.e, hk.e, e4, e7, J.b4.rd 4 _ rfl, hbN, buildS_eq, hfill, hA, hS]
  refine Rg.ret (hP _ _ ?_)
  clear hP P
  simp only [Then, Out]
  refine Ru.r1 fun P hP => ?_
  simp -implicitDefEqProofs (disch := first | decide | omega) [hk3.e, e6]
  refine Rg.ret (hP _ _ ⟨by repeat first | exact .via (by rfl) hk3 hk2 | refine Keep.up (by rfl) ?_, k + 1, by omega, by omega, rfl, y', ?_⟩)
  rw [hrs1]; exact J2
end Go.Proofs.YticfndhcbjcklaaDoor.Ev
namespace Go.Proofs.YticfndhcbjcklaaDoor.Ev
set_option linter.unusedSimpArgs false
set_option linter.unusedVariables false
variable {st s t : St} {n i id off : Nat}
theorem gate_ints (g : GateD) : All2 IntK (gateC g) (gateC g) := by
  have h : ∀ k m, IntK (.int k m) (.int k m) := fun k m => ⟨k, m, m, rfl, rfl⟩
  exact .cons (h _ _) (.cons (h _ _) (.cons (h _ _) (.cons (h _ _) (.cons (h _ _) (.cons (h _ _) (.cons (h _ _) (.cons (h _ _) (.cons (h _ _) (.cons (h _ _) (.cons (h _ _) .nil))))))))))
theorem sameGates_ok (hw : WfS st) (f v p sc : Int) {y1 y2 : S} {L : List GateD} (h1 : RepRows st y1 L) (h2 : RepRows st y2 L) (hlen : L.length < 9223372036854775808) :
    Ca (cF F) 16 [.agg [is f, is v, is p, is sc, y1], .agg [is f, is v, is p, is sc, y2]] st (fun w s => Fr st s ∧ w = bl true) := by
  refine Ca.of (hf := cf16) rfl rfl [q0, q1] [.tmp q4] rfl rfl rfl fun Q hQ => ?_
  have f1 : Fr st (new st [is f, is v, is p, is sc, y1]) := (Fr.refl hw).new _
  have f2 : Fr st (new (new st [is f, is v, is p, is sc, y1]) [is f, is v, is p, is sc, y2]) := f1.new _
  have b2 : Bx (new (new st [is f, is v, is p, is sc, y1]) [is f, is v, is p, is sc, y2]) st.next [is f, is v, is p, is sc, y1] := (Bx.new (s := st)).fr ((Fr.refl f1.wf).new _)
  have b3 : Bx (new (new st [is f, is v, is p, is sc, y1]) [is f, is v, is p, is sc, y2]) (st.next + 1) [is f, is v, is p, is sc, y2] := Bx.new (s := new st [is f, is v, is p, is sc, y1])
  refine Ru.rs fun P hP => ?_
  simp -implicitDefEqProofs (disch := first | decide | omega)
  refine Rg.ret (hP _ _ ?_)
  clear hP P
  have g1 := h1.fr f2
  have g2 := h2.fr f2
  generalize new (new st [is f, is v, is p, is sc, y1]) [is f, is v, is p, is sc, y2] = s2 at *
  refine Ru.seq (Ru.rs fun P hP => ?_)
  simp -implicitDefEqProofs (disch := first | decide | omega) [b2.rd 0 _ rfl, b2.rd 1 _ rfl, b2.rd 2 _ rfl, b2.rd 3 _ rfl, b2.rd 4 _ rfl, b3.rd 0 _ rfl, b3.rd 1 _ rfl, b3.rd 2 _ rfl, b3.rd 3 _ rfl, b3.rd 4 _ rfl, lnS_sat g1, lnS_sat g2]
  refine Rg.ret (hP _ _ (Ru.cond rfl (fun h => by cases h) fun h => Ru.skip ?_))
  clear hP P
  refine Ru.seq (Ru.rs fun P hP => Rg.ret (hP _ _ ?_))
  clear hP P
  refine Ru.at (fun ρ => ρ q2 = .sc (.ptr st.next 0) ∧ ρ q3 = .sc (.ptr (st.next + 1) 0) ∧ ρ q5 = iv 0) ⟨rfl, rfl, rfl⟩ fun ρ1 hE => ?_
  obtain ⟨e2, e3, e5⟩ := hE
  refine Ru.block (Ru.lp [q2, q3] (fun i : Nat => L.length - i) (fun i ρ s => s = s2 ∧ i ≤ L.length ∧ ρ q5 = iv i)
    ⟨0, rfl, by omega, e5⟩ fun i ρ s hk hI => ?_)
  clear e5
  obtain ⟨hs, hi, e5⟩ := hI
  subst s
  refine Ru.seq (Ru.rs fun P hP => ?_)
  simp -implicitDefEqProofs (disch := first | decide | omega) [hk.e, e2, e5, b2.rd 4 _ rfl, lnS_sat g1]
  refine Rg.ret (hP _ _ ?_)
  clear hP P
  refine Ru.cond rfl (fun h => Ru.skip ?_) fun h => Ru.exit ?_
  rotate_left
  · simp only [Then, Out, if_true]
    exact Ru.sreg (Rg.ret (Ru.ret (hQ _ _ (.one rfl ⟨f2, rfl⟩))))
  simp at h
  have hlt : i < L.length := by omega
  have hgi := List.getElem?_eq_getElem hlt
  generalize L[i] = g at hgi
  obtain ⟨r1, o1, hx1, hc1, _⟩ := elt (f := gateC) (z := 11) (fun _ => rfl) g1 hgi
  obtain ⟨r2, o2, hx2, hc2, _⟩ := elt (f := gateC) (z := 11) (fun _ => rfl) g2 hgi
  have n1' : rdN s2 r1 o1 11 = some (gateC g) := rdN_get rfl hc1
  have n2' : rdN s2 r2 o2 11 = some (gateC g) := rdN_get rfl hc2
  obtain ⟨e, he, hee⟩ := eqv_ints (st := s2) (gate_ints g) (ts := [1, 1, 1, 1, 1, 1, 1, 1, 1, 1, 1]) rfl
  rw [hee.2 rfl] at he
  refine Ru.seq (Ru.block (Ru.ds fun P hP => ?_))
  simp -implicitDefEqProofs (disch := first | decide | omega) [hk.e, e2, e3, e5, b2.rd 4 _ rfl, b3.rd 4 _ rfl, hx1, hx2, n1', n2', he]
  refine Rg.ret (hP _ _ (Ru.cond rfl (fun h => by cases h) fun h => Ru.skip ?_))
  clear hP P
  simp only [Then, Out]
  refine Ru.r1 fun P hP => ?_
  simp -implicitDefEqProofs (disch := first | decide | omega) [e5]
  exact Rg.ret (hP _ _ ⟨by repeat first | exact hk | refine Keep.up (by rfl) ?_, i + 1, by omega, rfl, by omega, rfl⟩)
/-! groups: lists of lists of numbers -/
structure IsD where
  ns : List Int
  sl : S
structure RepIs (st : St) (s : S) (l : List IsD) : Prop where
  sat : Sat st s l.length 1 (l.map IsD.sl)
  ns : ∀ x, x ∈ l → RepI st x.sl x.ns
theorem RepIs.fr {x : S} {l : List IsD} (h : RepIs s x l) (k : Fr s t) : RepIs t x l := ⟨h.sat.fr k, fun g hg => (h.ns g hg).fr k⟩
theorem sameGroups_ok (hw : WfS st) {y1 y2 : S} {A B : List IsD} (h1 : RepIs st y1 A) (h2 : RepIs st y2 B) (hlen : A.length < 9223372036854775808) (hl2 : ∀ x ∈ A, x.ns.length < 9223372036854775808) (he : A.map IsD.ns = B.map IsD.ns) :
    Ca (cF F) 17 [.sc y1, .sc y2] st (fun w s => s = st ∧ w = bl true) := by
  refine Ca.of (hf := cf17) rfl rfl [q0, q1] [.tmp q4] rfl rfl rfl fun Q hQ => ?_
  have hAB : A.length = B.length := by have := congrArg List.length he; simpa using this
  refine Ru.rs fun P hP => Rg.ret (hP _ _ ?_)
  clear hP P
  refine Ru.seq (Ru.rs fun P hP => ?_)
  simp -implicitDefEqProofs (disch := first | decide | omega) [lnS_sat h1.sat, lnS_sat h2.sat]
  refine Rg.ret (hP _ _ (Ru.cond rfl (fun h => by cases h) fun h => Ru.skip ?_))
  clear hP P
  refine Ru.seq (Ru.rs fun P hP => Rg.ret (hP _ _ ?_))
  clear hP P
  refine Ru.at (fun ρ => ρ q0 = .sc y1 ∧ ρ q1 = .sc y2 ∧ ρ q5 = iv 0) ⟨rfl, rfl, rfl⟩ fun ρ1 hE => ?_
  obtain ⟨e0, e1, e5⟩ := hE
  refine Ru.block (Ru.lp [q0, q1] (fun i : Nat => A.length - i) (fun i ρ s => s = st ∧ i ≤ A.length ∧ ρ q5 = iv i)
    ⟨0, rfl, by omega, e5⟩ fun i ρ s hk hI => ?_)
  clear e5
  obtain ⟨hs, hi, e5⟩ := hI
  subst s
  refine Ru.seq (Ru.rs fun P hP => ?_)
  simp -implicitDefEqProofs (disch := first | decide | omega) [hk.e, e0, e5, lnS_sat h1.sat]
  refine Rg.ret (hP _ _ ?_)
  clear hP P
  refine Ru.cond rfl (fun h => Ru.skip ?_) fun h => Ru.exit ?_
  rotate_left
  · simp only [Then, Out, if_true]
    exact Ru.sreg (Rg.ret (Ru.ret (hQ _ _ (.one rfl ⟨rfl, rfl⟩))))
  simp at h
  have hlt : i < A.length := by omega
  have hai := List.getElem?_eq_getElem hlt
  have ham := List.getElem_mem hlt
  have hbi := List.getElem?_eq_getElem (show i < B.length by omega)
  have hbm := List.getElem_mem (show i < B.length by omega)
  have hab : (A[i]).ns = (B[i]'(by omega)).ns := by
    have := congrArg (fun l => l[i]?) he
    simp only [List.getElem?_map, hai, hbi, Option.map_some, Option.some.injEq] at this
    exact this
  generalize A[i] = a at hai ham hab
  generalize B[i] = b at hbi hbm hab
  obtain ⟨r1, o1, hx1, hc1, _⟩ := elt1 h1.sat hai
  obtain ⟨r2, o2, hx2, hc2, _⟩ := elt1 h2.sat hbi
  have ra := h1.ns a ham
  have rb := h2.ns b hbm
  rw [← hab] at rb
  have hal := hl2 a ham
  refine Ru.seq (Ru.block (Ru.seq (Ru.ds fun P hP => ?_)))
  simp -implicitDefEqProofs (disch := first | decide | omega) [hk.e, e0, e1, e5, hx1, hx2, hc1, hc2, lnS_sat ra, lnS_sat rb]
  refine Rg.ret (hP _ _ (Ru.cond rfl (fun h => by cases h) fun h => Ru.skip ?_))
  clear hP P
  refine Ru.rs fun P hP => Rg.ret (hP _ _ ?_)
  clear hP P
  refine Ru.at (fun ρ' => Keep [q0, q1] ρ' ρ1 ∧ ρ' q5 = iv i ∧ ρ' q6 = iv 0) ⟨by repeat first | exact hk | refine Keep.up (by rfl) ?_, by simp (disch := first | decide | omega) [e5], rfl⟩ fun ρ2 hE => ?_
  clear hk e5 ρ
  obtain ⟨hk, e5, e6⟩ := hE
  refine Ru.block (Ru.lp [q0, q1, q5] (fun k : Nat => a.ns.length - k) (fun k ρ s => s = st ∧ k ≤ a.ns.length ∧ ρ q6 = iv k)
    ⟨0, rfl, by omega, e6⟩ fun k ρ s hk2 hI => ?_)
  clear e6
  obtain ⟨hs, hkl, e6⟩ := hI
  subst s
  refine Ru.seq (Ru.rs fun P hP => ?_)
  simp -implicitDefEqProofs (disch := first | decide | omega) [hk2.e, hk.e, e0, e5, e6, hx1, hc1, lnS_sat ra]
  refine Rg.ret (hP _ _ ?_)
  clear hP P
  refine Ru.cond rfl (fun h => Ru.skip ?_) fun h => Ru.exit ?_
  rotate_left
  · simp only [Then, Out, if_true]
    refine Ru.r1 fun P hP => ?_
    simp -implicitDefEqProofs (disch := first | decide | omega) [hk2.e, e5]
    exact Rg.ret (hP _ _ ⟨by repeat first | exact .via (by rfl) hk2 hk | refine Keep.up (by rfl) ?_, i + 1, by omega, rfl, by omega, rfl⟩)
  simp at h
  have hki := List.getElem?_eq_getElem (show k < a.ns.length by omega)
  generalize a.ns[k] = v at hki
  obtain ⟨r3, o3, hx3, hc3, _⟩ := elt1 ra hki
  obtain ⟨r4, o4, hx4, hc4, _⟩ := elt1 rb hki
  refine Ru.seq (Ru.block (Ru.ds fun P hP => ?_))
  simp -implicitDefEqProofs (disch := first | decide | omega) [hk2.e, hk.e, e0, e1, e5, e6, hx1, hx2, hc1, hc2, hx3, hx4, hc3, hc4]
  refine Rg.ret (hP _ _ (Ru.cond rfl (fun h => by cases h) fun h => Ru.skip ?_))
  clear hP P
  simp only [Then, Out]
  refine Ru.r1 fun P hP => ?_
  simp -implicitDefEqProofs (disch := first | decide | omega) [e6]
  exact Rg.ret (hP _ _ ⟨by repeat first | exact hk2 | refine Keep.up (by rfl) ?_, k + 1, by omega, rfl, by omega, rfl⟩)
end Go.Proofs.YticfndhcbjcklaaDoor.Ev
namespace Go.Proofs.YticfndhcbjcklaaDoor.Ev
set_option linter.unusedSimpArgs false
set_option linter.unusedVariables false
variable {st s t : St} {n i id off : Nat}
/-! groups, in plain terms -/
def cutL (l : List GatesD) (a b : Nat) : List GatesD := (l.take b).drop a
def updLast (o : List (List Int)) (x : Int) : List (List Int) := o.dropLast ++ [(o.getLast?.getD []) ++ [x]]
theorem updLast_snoc (p : List (List Int)) (q : List Int) (x : Int) : updLast (p ++ [q]) x = p ++ [q ++ [x]] := by simp [updLast]
open Classical in
noncomputable def grp (l : List GatesD) : Nat → List (List Int) × Nat
  | 0 => ([], 0)
  | i + 1 => if i = (grp l i).2 ∨ ¬ RoomP (cutL l (grp l i).2 (i + 1)) then ((grp l i).1 ++ [[(i : Int)]], i) else (updLast (grp l i).1 i, (grp l i).2)
theorem grp_new {l : List GatesD} {i : Nat} (h : i = (grp l i).2 ∨ ¬ RoomP (cutL l (grp l i).2 (i + 1))) : grp l (i + 1) = ((grp l i).1 ++ [[(i : Int)]], i) := if_pos h
theorem grp_old {l : List GatesD} {i : Nat} (h : ¬ (i = (grp l i).2 ∨ ¬ RoomP (cutL l (grp l i).2 (i + 1)))) : grp l (i + 1) = (updLast (grp l i).1 i, (grp l i).2) := if_neg h
theorem grp_from (l : List GatesD) : ∀ i, (grp l i).2 ≤ i ∧ (0 < i → (grp l i).1 ≠ [])
  | 0 => ⟨Nat.le_refl _, fun h => by omega⟩
  | i + 1 => by
    have ih := grp_from l i
    by_cases h : i = (grp l i).2 ∨ ¬ RoomP (cutL l (grp l i).2 (i + 1))
    · rw [grp_new h]; exact ⟨Nat.le_succ _, fun _ => by simp⟩
    · rw [grp_old h]
      exact ⟨Nat.le_trans ih.1 (Nat.le_succ _), fun _ => by simp [updLast]⟩
def rng (a n : Nat) : List Int := (List.range n).map fun k => ((a + k : Nat) : Int)
theorem rng_succ (a n : Nat) : rng a (n + 1) = rng a n ++ [((a + n : Nat) : Int)] := by simp [rng, List.range_succ]
/-! in memory -/
structure GS (st s : St) (y : S) (D : List IsD) : Prop where
  fr : Fr st s
  sat : Sat s y D.length 1 (D.map IsD.sl)
  grw : Grw st.next s y D.length 1
  el : ∀ d ∈ D, RepI s d.sl d.ns ∧ ∀ id, sid d.sl = some id → st.next ≤ id ∧ id < s.next ∧ sid y ≠ some id
structure LS (st s : St) (D0 : List IsD) (d : IsD) : Prop where
  grw : Grw st.next s d.sl d.ns.length 1
  off : ∀ d' ∈ D0, ∀ id, sid d'.sl = some id → sid d.sl ≠ some id
theorem GS.push {y : S} {D : List IsD} (h : GS st s y D) (hw : WfS st) (e : IsD) (hlen : D.length < 1000) (he : RepI s e.sl e.ns) (hid : ∀ id, sid e.sl = some id → st.next ≤ id ∧ id < s.next ∧ sid y ≠ some id) :
    ∃ y' s', (∀ (cl : CallK) (ρ : Ev) (K : V → St → R), xA 1 24 (.sc y) (.sc (.slice s.next 0 1 (some 1) 1)) cl ρ (new s [e.sl]) K = K (.sc y') s') ∧ GS st s' y' (D ++ [e]) ∧ Kp (sid y) s s' := by
  obtain ⟨y', s', hA, g1, g2, g3, g4, g5⟩ := app_bld (b := 24) (k := 1) (nc := [e.sl]) h.fr.wf h.sat h.grw h.fr.next (by decide) rfl (by omega) (by omega)
  refine ⟨y', s', hA, ⟨g3.fr h.fr (fun id he => h.grw.sid _ he) hw, ?_, ?_, fun d hd => ?_⟩, g3⟩
  · rw [List.length_append, List.map_append]; exact g1
  · rw [List.length_append]; exact g2
  · have key : ∀ d : IsD, RepI s d.sl d.ns → (∀ id, sid d.sl = some id → st.next ≤ id ∧ id < s.next ∧ sid y ≠ some id) → RepI s' d.sl d.ns ∧ ∀ id, sid d.sl = some id → st.next ≤ id ∧ id < s'.next ∧ sid y' ≠ some id := fun d h1 h2 => by
      refine ⟨h1.keep g3 fun id hy hd => (h2 id hd).2.2 hy, fun id hi => ?_⟩
      obtain ⟨a1, a2, a3⟩ := h2 id hi
      refine ⟨a1, by omega, fun hh => ?_⟩
      rw [g4] at hh; cases hh; omega
    rcases List.mem_append.1 hd with hd | hd
    · exact key d (h.el d hd).1 (h.el d hd).2
    · obtain rfl := List.mem_singleton.1 hd
      exact key _ he hid
theorem GS.app {y : S} {D0 : List IsD} {d : IsD} (h : GS st s y (D0 ++ [d])) (hw : WfS st) (hL : LS st s D0 d) (x : Int) (hlen : D0.length < 1000) (hdl : d.ns.length < 1000) :
    ∃ v s1 idy, (∀ (cl : CallK) (ρ : Ev) (K : V → St → R), xA 1 8 (.sc d.sl) (.sc (.slice s.next 0 1 (some 1) 1)) cl ρ (new s [is x]) K = K (.sc v) s1) ∧ y = .slice idy 0 (D0.length + 1) none 1 ∧
      rd s idy D0.length = some d.sl ∧
      (∀ K : St → R, sto s1 1 (.sc (.ptr idy D0.length)) (.sc v) K = K (wr s1 idy D0.length [v])) ∧ GS st (wr s1 idy D0.length [v]) y (D0 ++ [⟨d.ns ++ [x], v⟩]) ∧ LS st (wr s1 idy D0.length [v]) D0 ⟨d.ns ++ [x], v⟩ := by
  have hd := h.el d (List.mem_append_right _ (List.mem_singleton.2 rfl))
  have hdn : (d.ns.map is).length = d.ns.length := by simp
  obtain ⟨v, s1, hA, g1, g2, g3, g4, g5⟩ := app_bld (b := 8) (k := 1) (nc := [is x]) h.fr.wf hd.1 hL.grw h.fr.next (by decide) rfl (by omega) (by omega)
  have hyf : ∃ idy b, y = .slice idy 0 (D0.length + 1) none 1 ∧ st.next ≤ idy ∧ s.heap.get idy = some b ∧ b.own = true ∧ D0.length + 1 ≤ b.n := by
    rcases h.grw with ⟨h0, _⟩ | ⟨idy, b, h1, h2, h3, h4, _, h6⟩
    · simp at h0
    · refine ⟨idy, b, ?_, h2, h3, h4, by simpa using h6⟩
      rw [h1]; simp
  obtain ⟨idy, b, rfl, hy2, hy3, hy4, hy5⟩ := hyf
  have hyd : sid d.sl ≠ some idy := fun hh => (hd.2 idy hh).2.2 rfl
  have ho : Own s1 idy b.n := ⟨b, g3.old idy b hyd hy3, hy4, rfl⟩
  have hylt : idy < s.next := Classical.byContradiction fun hh => by rw [h.fr.wf idy (by omega)] at hy3; cases hy3
  have hsat : Sat s (.slice idy 0 (D0.length + 1) none 1) (D0.length + 1) 1 ((D0 ++ [d]).map IsD.sl) := by have := h.sat; simpa using this
  have hrd : rd s idy D0.length = some d.sl := by
    obtain ⟨_, _, _, he, hh⟩ := hsat.rd (by omega)
    cases he
    have := hh D0.length d.sl (by simp)
    rwa [Nat.zero_add] at this
  have hsat1 : Sat s1 (.slice idy 0 (D0.length + 1) none 1) (D0.length + 1) 1 ((D0 ++ [d]).map IsD.sl) := hsat.keep g3 fun id he hh => by
    cases hh; exact hyd he
  have hset := hsat1.set ho (by omega) (show D0.length < D0.length + 1 by omega) v
  rw [Nat.zero_add] at hset
  have hl2 : ((D0 ++ [d]).map IsD.sl).set D0.length v = (D0 ++ [IsD.mk (d.ns ++ [x]) v]).map IsD.sl := by simp [List.set_append]
  rw [hl2] at hset
  have kw := kp_wr (off := D0.length) (l := [v]) g3.wf (show idy < s1.next by omega)
  have hvd : sid v ≠ some idy := fun hh => by rw [g4] at hh; cases hh; omega
  have hfr1 := g3.fr h.fr (fun id he => (hd.2 id he).1) hw
  refine ⟨v, s1, idy, hA, rfl, hrd, fun K => sto_sc K ho (by omega), ⟨kw.fr hfr1 (fun id he => by cases he; exact hy2) hw, by simpa using hset, ?_, fun d' hd' => ?_⟩, ⟨?_, fun d' hd' id hi => ?_⟩⟩
  · obtain ⟨b', e1, e2, e3⟩ := ho.wr (id := idy) (off := D0.length) (l := [v])
    refine .inr ⟨idy, b', by simp, hy2, e1, e2, ?_, by simp; omega⟩
    have h1 : s1.heap.get idy = some b := g3.old idy b hyd hy3
    have : (wr s1 idy D0.length [v]).heap.get idy = some (wroteBlk b D0.length [v]) := by
      unfold wr; rw [h1]; simp only; rw [putBlk_get, if_pos rfl]
    rw [this] at e1; cases e1
    rcases h.grw with ⟨h0, _⟩ | ⟨idy', b', h1', _, h3', _, h5', _⟩
    · simp at h0
    · simp only [S.slice.injEq] at h1'
      obtain ⟨rfl, _⟩ := h1'
      rw [hy3] at h3'; cases h3'; exact h5'
  · rcases List.mem_append.1 hd' with hd' | hd'
    · have hm := h.el d' (List.mem_append_left _ hd')
      refine ⟨(hm.1.keep g3 fun id he hh => hL.off d' hd' id hh he).keep kw fun id he hh => by cases he; exact (hm.2 _ hh).2.2 rfl, fun id hi => ?_⟩
      obtain ⟨a1, a2, a3⟩ := hm.2 id hi
      exact ⟨a1, by rw [wr_next]; omega, a3⟩
    · obtain rfl := List.mem_singleton.1 hd'
      refine ⟨?_, fun id hi => ?_⟩
      · have := g1.keep kw fun id he hh => by cases he; exact hvd hh
        unfold RepI
        simpa using this
      · have hi : sid v = some id := hi
        rw [g4] at hi; cases hi
        have := h.fr.next
        exact ⟨by omega, by rw [wr_next]; omega, fun hh => by cases hh; omega⟩
  · have := g2.keep kw fun id he hh => by cases he; exact hvd hh
    simpa using this
  · intro hh
    have hh : sid v = some id := hh
    rw [g4] at hh; cases hh
    have := ((h.el d' (List.mem_append_left _ hd')).2 _ hi).2.1
    omega
end Go.Proofs.YticfndhcbjcklaaDoor.Ev
namespace Go.Proofs.YticfndhcbjcklaaDoor.Ev
set_option linter.unusedSimpArgs false
set_option linter.unusedVariables false
variable {st s t : St} {n i id off : Nat}
theorem grp_len (l : List GatesD) : ∀ i, (grp l i).1.length ≤ i ∧ ∀ x ∈ (grp l i).1, x.length ≤ i
  | 0 => ⟨Nat.le_refl _, fun x hx => by cases hx⟩
  | i + 1 => by
    have ih := grp_len l i
    by_cases h : i = (grp l i).2 ∨ ¬ RoomP (cutL l (grp l i).2 (i + 1))
    · rw [grp_new h]
      refine ⟨by simp; exact ih.1, fun x hx => ?_⟩
      rcases List.mem_append.1 hx with hx | hx
      · exact Nat.le_succ_of_le (ih.2 x hx)
      · obtain rfl := List.mem_singleton.1 hx; simp
    · rw [grp_old h]
      have hi : 0 < i := by
        rcases Nat.eq_zero_or_pos i with h0 | h0
        · subst h0; exact absurd (.inl rfl) h
        · exact h0
      have hne := (grp_from l i).2 hi
      refine ⟨?_, fun x hx => ?_⟩
      · have : 0 < (grp l i).1.length := List.length_pos_iff.2 hne
        simp [updLast]; omega
      · simp only [updLast] at hx
        rcases List.mem_append.1 hx with hx | hx
        · exact Nat.le_succ_of_le (ih.2 x (List.dropLast_subset _ hx))
        · obtain rfl := List.mem_singleton.1 hx
          have hp : 0 < (grp l i).1.length := List.length_pos_iff.2 hne
          rw [List.getLast?_eq_getElem?, List.getElem?_eq_getElem (show (grp l i).1.length - 1 < (grp l i).1.length by omega)]
          have := ih.2 _ (List.getElem_mem (show (grp l i).1.length - 1 < (grp l i).1.length by omega))
          simp; exact this
theorem flat_drop {α : Type} {f : α → List S} {z : Nat} (hf : ∀ a, (f a).length = z) : ∀ (l : List α) (n : Nat), (l.flatMap f).drop (n * z) = (l.drop n).flatMap f
  | l, 0 => by simp
  | [], n + 1 => by simp
  | a :: l, n + 1 => by
    have h : (f a ++ l.flatMap f).drop z = l.flatMap f := by rw [← hf a]; exact List.drop_left
    rw [List.flatMap_cons, List.drop_succ_cons, ← flat_drop hf l n, Nat.succ_mul, Nat.add_comm, ← List.drop_drop, h]
theorem flat_take {α : Type} {f : α → List S} {z : Nat} (hf : ∀ a, (f a).length = z) : ∀ (l : List α) (n : Nat), (l.flatMap f).take (n * z) = (l.take n).flatMap f
  | l, 0 => by simp
  | [], n + 1 => by simp
  | a :: l, n + 1 => by
    rw [List.flatMap_cons, List.take_succ_cons, List.flatMap_cons, ← flat_take hf l n, List.take_append, hf, List.take_of_length_le (by rw [hf, Nat.succ_mul]; omega)]
    congr 2
    rw [Nat.succ_mul]; omega
/-- a part of the programs -/
theorem cut_ok {x : S} {l : List GatesD} (hl : RepGs st x l) {a b : Nat} (hab : a ≤ b) (hb : b ≤ l.length) :
    ∃ y, (∀ (c : CallK) (r : Ev) (K : V → St → R), h_op3_sliceS 5 (.c (.sc x)) (some (.c (iv a))) (some (.c (iv b))) none c r st K = K (.sc y) st) ∧ RepGs st y (cutL l a b) ∧ (cutL l a b).length = b - a ∧ ∀ g ∈ cutL l a b, g ∈ l := by
  obtain ⟨y, h1, _, h3⟩ := sliceS_sat hl.sat (some a) (some b) (by simpa using hab) (by simpa using hb)
  have hcl : (cutL l a b).length = b - a := by unfold cutL; rw [List.length_drop, List.length_take]; omega
  have hmem : ∀ g ∈ cutL l a b, g ∈ l := fun g hg => List.mem_of_mem_take (List.mem_of_mem_drop hg)
  refine ⟨y, h1, ⟨?_, fun g hg => hl.rows g (hmem g hg)⟩, hcl, hmem⟩
  simp only [Option.getD_some] at h3
  rw [flat_drop (f := gC) (z := 5) (fun _ => rfl), flat_take (f := gC) (z := 5) (fun _ => rfl)] at h3
  rw [hcl]
  unfold cutL
  rw [List.drop_take]
  exact h3
/-- what both Groups answer -/
def GrR (l : List GatesD) (s : St) (v : V) : Prop :=
  ∃ y e, v = .tup [(false, [y]), (false, [is e])] ∧ ((¬ AllV l ∧ y = .nils ∧ e = 1) ∨ (AllV l ∧ e = 0 ∧ ∃ D, RepIs s y D ∧ D.map IsD.ns = (grp l l.length).1))
theorem groups_ok (hg : Glo st) {x : S} {l : List GatesD} (hl : RepGs st x l) (h24 : l.length ≤ 24) (hr : ∀ g ∈ l, g.rows.length < 9223372036854775808) :
    Ca (cF F) 14 [.sc x] st (fun v s => Fr st s ∧ GrR l s v) := by
  refine Ca.of (hf := cf14) rfl rfl [q0] [.tmp q2, .tmp q3] rfl rfl rfl fun Q hQ => ?_
  have hw := hg.wf
  refine Ru.rs fun P hP => Rg.ret (hP _ _ ?_)
  clear hP P
  refine Ru.seq (Ru.rs fun P hP => ?_)
  simp -implicitDefEqProofs (disch := first | decide | omega)
  refine Rg.call (gvalid_ok hg hl (by omega) hr) fun vv s1 hv => ?_
  obtain ⟨k1, bb, rfl, hb1⟩ := hv
  simp -implicitDefEqProofs (disch := first | decide | omega)
  refine Rg.ret (hP _ _ ?_)
  clear hP P
  refine Ru.cond rfl (fun h => Ru.sreg (Rg.ret (Ru.ret (hQ _ _ (.two (a := .nils) (b := is 1) rfl rfl ⟨k1, .nils, 1, rfl, .inl ⟨fun hh => ?_, rfl, rfl⟩⟩))))) fun h => Ru.skip ?_
  · rw [hb1.2 hh] at h; cases h
  simp at h
  have hV := hb1.1 h
  have hB := allV_base hV
  refine Ru.rs fun P hP => Rg.ret (hP _ _ ?_)
  clear hP P
  refine Ru.rs fun P hP => Rg.ret (hP _ _ ?_)
  clear hP P
  refine Ru.seq (Ru.rs fun P hP => ?_)
  simp -implicitDefEqProofs (disch := first | decide | omega) [lnS_sat (hl.fr k1).sat]
  refine Rg.ret (hP _ _ ?_)
  clear hP P
  refine Ru.at (fun ρ => ρ q0 = .sc x ∧ ρ q4 = .sc .nils ∧ ρ q5 = iv 0 ∧ ρ q11 = iv l.length ∧ ρ q12 = iv 0) ⟨rfl, rfl, rfl, rfl, rfl⟩ fun ρ1 hE => ?_
  obtain ⟨e0, e4, e5, e11, e12⟩ := hE
  refine Ru.block (Ru.lp [q0, q11] (fun i : Nat => l.length - i) (fun i ρ s => i ≤ l.length ∧ ρ q12 = iv i ∧ ρ q5 = iv (grp l i).2 ∧ ∃ y D, ρ q4 = .sc y ∧ GS st s y D ∧ D.map IsD.ns = (grp l i).1 ∧ (0 < i → ∃ D0 d, D = D0 ++ [d] ∧ LS st s D0 d))
    ⟨0, by omega, e12, e5, .nils, [], e4, ⟨k1, Sat.nil 1, Grw.nil _ _, fun d hd => by cases hd⟩, rfl, fun h => by omega⟩ fun i ρ s hk hI => ?_)
  clear e4 e5 e12
  obtain ⟨hi, e12, e5, y, D, e4, hG, hDg, hlast⟩ := hI
  refine Ru.rs fun P hP => ?_
  simp -implicitDefEqProofs (disch := first | decide | omega) [hk.e, e11, e12]
  refine Rg.ret (hP _ _ ?_)
  clear hP P
  refine Ru.seq (Ru.cond rfl (fun h => Ru.skip ?_) fun h => Ru.exit ?_)
  rotate_left
  · simp at h
    have : i = l.length := by omega
    subst this
    simp only [Then, Out, if_true]
    refine Ru.sreg (Rg.ret (Ru.ret (hQ _ _ (.two (a := y) (b := is 0) (by simp (disch := first | decide | omega) [e4]) rfl ⟨hG.fr, y, 0, rfl, .inr ⟨hV, rfl, D, ⟨hG.sat, fun d hd => (hG.el d hd).1⟩, hDg⟩⟩))))
  simp at h
  have hlt : i < l.length := by omega
  have hgl := grp_len l i
  have hgf := grp_from l i
  have hDlen : D.length ≤ i := by have := congrArg List.length hDg; simp at this; omega
  have hnew : ∀ (D1 : List IsD), D1.map IsD.ns = (grp l i).1 → (i = (grp l i).2 ∨ ¬ RoomP (cutL l (grp l i).2 (i + 1))) → (D1 ++ [IsD.mk ([] ++ [(i : Int)]) .nils]).map IsD.ns = (grp l (i + 1)).1 ∧ (grp l (i + 1)).2 = i := fun D1 h1 h2 => by
    rw [grp_new h2, List.map_append, h1]; exact ⟨rfl, rfl⟩
  -- the last group takes i
  have fin : ∀ (Q' : X → Ev → St → Prop) (ρ' : Ev) (s' : St) (y' : S) (D0 : List IsD) (d : IsD) (f' : Nat), Keep [q0, q11] ρ' ρ1 → ρ' q12 = iv i → ρ' q6 = iv i → ρ' q5 = iv f' → ρ' q4 = .sc y' → GS st s' y' (D0 ++ [d]) → LS st s' D0 d → D0.length < 30 → d.ns.length < 30 → (∀ v, (D0 ++ [IsD.mk (d.ns ++ [(i : Int)]) v]).map IsD.ns = (grp l (i + 1)).1) → f' = (grp l (i + 1)).2 →
      (∀ ρ' s', (Keep [q0, q11] ρ' ρ1 ∧ ∃ a', l.length - a' < l.length - i ∧ a' ≤ l.length ∧ ρ' q12 = iv a' ∧ ρ' q5 = iv (grp l a').2 ∧ ∃ y D, ρ' q4 = .sc y ∧ GS st s' y D ∧ D.map IsD.ns = (grp l a').1 ∧ (0 < a' → ∃ D0 d, D = D0 ++ [d] ∧ LS st s' D0 d)) → Q' .normal ρ' s') →
      Ru (cF F) (.reg [] fun c r s K => lnS (r q4) fun v0 => binK .sub v0 I1 fun v1 => lnS (r q4) fun v2 => binK .sub v2 I1 fun v3 => ixs n1 (r q4) v3 fun v4 => ld s v4 fun v5 => h_op3_buildS n1 n1 [zi] [(n0, n1, (.c (r q6)))] c r s fun v6 s => xA n1 n8 v5 v6 c r s fun v7 s => ixs n1 (r q4) v1 fun v8 => sto s n1 v8 v7 fun s => K [] s) ρ' s' (Out n1 (Then (fun ρ s => Ru (cF F) (.reg [q12] fun c r s K => binK .add (r q12) I1 fun v0 => K [v0] s) ρ s Q') Q')) := fun Q' ρ' s' y' D0 d f' hk e12 e6 e5 e4 hG hL h1 h2 h3 h4 hQ' => by
    obtain ⟨v, s1, idy, hA, hy, hrd, hS, hG2, hL2⟩ := hG.app hw hL (i : Int) (by omega) (by omega)
    have hfill : ∀ tm K, fillK tm K [(0, 1, .c (iv i))] [is 0] = K [is i] := fun tm K => (fill_sc tm K _ 0 (is i) [] (by simp)).trans (by rw [fill_nil]; rfl)
    refine Ru.r1 fun P hP => ?_
    rw [hy] at e4
    simp -implicitDefEqProofs (disch := first | decide | omega) [e4, e6, hrd, buildS_eq, hfill, hA, hS]
    refine Rg.ret (hP _ _ ?_)
    clear hP P
    simp only [Then, Out]
    refine Ru.r1 fun P hP => ?_
    simp -implicitDefEqProofs (disch := first | decide | omega) [e12]
    exact Rg.ret (hP _ _ (hQ' _ _ ⟨by repeat first | exact hk | refine Keep.up (by rfl) ?_, i + 1, by omega, by omega, rfl, by rw [← h4]; simp (disch := first | decide | omega) [e5], y', _, by rw [hy]; simp (disch := first | decide | omega) [e4], hG2, h3 v, fun _ => ⟨D0, _, rfl, hL2⟩⟩))
  refine Ru.seq (Ru.block (Ru.rs fun P hP => Rg.ret (hP _ _ ?_)))
  clear hP P
  have push : ∀ (Q' : X → Ev → St → Prop) (ρ' : Ev) (s' : St), Keep [q0, q11] ρ' ρ1 → ρ' q12 = iv i → ρ' q6 = iv i → ρ' q4 = .sc y → GS st s' y D → (i = (grp l i).2 ∨ ¬ RoomP (cutL l (grp l i).2 (i + 1))) →
      (∀ ρ' s' y', Keep [q0, q11] ρ' ρ1 → ρ' q12 = iv i → ρ' q6 = iv i → ρ' q5 = iv i → ρ' q4 = .sc y' → GS st s' y' (D ++ [IsD.mk [] .nils]) → LS st s' D (IsD.mk [] .nils) → Q' .normal ρ' s') →
      Ru (cF F) (.seq (.reg [q5] fun c r s K => K [(r q6)] s)
 (.reg [q4] fun c r s K => h_op3_buildS n1 n1 [zn] [(n0, n1, (.c (.sc zn)))] c r s fun v0 s => xA n1 n24 (r q4) v0 c r s fun v1 s => K [v1] s)) ρ' s' Q' := fun Q' ρ' s' hk e12 e6 e4 hG hnw hQ' => by
    obtain ⟨y', s2, hA, hG2, _⟩ := hG.push hw (IsD.mk [] .nils) (by omega) (Sat.nil 1) fun id hh => by cases hh
    have hfill : ∀ tm K, fillK tm K [(0, 1, .c (.sc zn))] [zn] = K [zn] := fun tm K => (fill_sc tm K _ 0 zn [] (by simp)).trans (by rw [fill_nil]; rfl)
    have hA' : ∀ (cl : CallK) (ρ : Ev) (K : V → St → R), xA 1 24 (.sc y) (.sc (.slice s'.next 0 1 (some 1) 1)) cl ρ (new s' [zn]) K = K (.sc y') s2 := hA
    refine Ru.rs fun P hP => Rg.ret (hP _ _ ?_)
    clear hP P
    refine Ru.r1 fun P hP => ?_
    simp -implicitDefEqProofs (disch := first | decide | omega) [e4, buildS_eq, hfill, hA']
    refine Rg.ret (hP _ _ (hQ' _ _ y' ?_ ?_ ?_ ?_ rfl hG2 ⟨Grw.nil _ _, fun d' hd' id hi hh => by cases hh⟩))
    · repeat first | exact hk | refine Keep.up (by rfl) ?_
    · simp (disch := first | decide | omega) [e12]
    · simp (disch := first | decide | omega) [e6]
    · simp (disch := first | decide | omega) [e6]
  have hns : ∀ D1 : List IsD, D1.map IsD.ns = (grp l i).1 → ∀ d ∈ D1, d.ns.length ≤ i := fun D1 h1 d hd => hgl.2 _ (by rw [← h1]; exact List.mem_map_of_mem hd)
  refine Ru.at (fun ρ' => Keep [q0, q11] ρ' ρ1 ∧ ρ' q12 = iv i ∧ ρ' q6 = iv i ∧ ρ' q5 = iv (grp l i).2 ∧ ρ' q4 = .sc y) ⟨by repeat first | exact hk | refine Keep.up (by rfl) ?_, by simp (disch := first | decide | omega) [e12], by simp (disch := first | decide | omega) [e12], by simp (disch := first | decide | omega) [e5], by simp (disch := first | decide | omega) [e4]⟩ fun ρ2 hE => ?_
  clear hk e12 e5 e4 ρ
  obtain ⟨hk, e12, e6, e5, e4⟩ := hE
  obtain ⟨z, hcut, hz, hzl, hzm⟩ := cut_ok (hl.fr hG.fr) (a := (grp l i).2) (b := i + 1) (by omega) (by omega)
  have hcut' : ∀ (c : CallK) (r : Ev) (K : V → St → R), h_op3_sliceS 5 (.c (.sc x)) (some (.c (iv (grp l i).2))) (some (.c (iv ((i : Int) + 1)))) none c r s K = K (.sc z) s := hcut
  have doNew : ∀ (Q' : X → Ev → St → Prop) (ρ' : Ev) (s' : St) (tv : Bool), GS st s' y D → Keep [q0, q11] ρ' ρ1 → ρ' q12 = iv i → ρ' q6 = iv i → ρ' q4 = .sc y → ρ' q26 = bl tv → tv = true → (i = (grp l i).2 ∨ ¬ RoomP (cutL l (grp l i).2 (i + 1))) →
      (∀ ρ' s' y', Keep [q0, q11] ρ' ρ1 → ρ' q12 = iv i → ρ' q6 = iv i → ρ' q5 = iv i → ρ' q4 = .sc y' → GS st s' y' (D ++ [IsD.mk [] .nils]) → LS st s' D (IsD.mk [] .nils) → Q' .normal ρ' s') →
      Ru (cF F) (.cond (.t q26) (.seq (.reg [q5] fun c r s K => K [(r q6)] s)
 (.reg [q4] fun c r s K => h_op3_buildS n1 n1 [zn] [(n0, n1, (.c (.sc zn)))] c r s fun v0 s => xA n1 n24 (r q4) v0 c r s fun v1 s => K [v1] s)) .skip) ρ' s' Q' := fun Q' ρ' s' tv hG hk e12 e6 e4 e26 ht hnw hQ' =>
    Ru.cond e26 (fun _ => push Q' ρ' s' hk e12 e6 e4 hG hnw hQ') fun h => by rw [ht] at h; cases h
  have contN : ∀ (Q' : X → Ev → St → Prop), (i = (grp l i).2 ∨ ¬ RoomP (cutL l (grp l i).2 (i + 1))) → (∀ ρ' s', (Keep [q0, q11] ρ' ρ1 ∧ ∃ a', l.length - a' < l.length - i ∧ a' ≤ l.length ∧ ρ' q12 = iv a' ∧ ρ' q5 = iv (grp l a').2 ∧ ∃ y D, ρ' q4 = .sc y ∧ GS st s' y D ∧ D.map IsD.ns = (grp l a').1 ∧ (0 < a' → ∃ D0 d, D = D0 ++ [d] ∧ LS st s' D0 d)) → Q' .normal ρ' s') → ∀ ρ' s' y', Keep [q0, q11] ρ' ρ1 → ρ' q12 = iv i → ρ' q6 = iv i → ρ' q5 = iv i → ρ' q4 = .sc y' → GS st s' y' (D ++ [IsD.mk [] .nils]) → LS st s' D (IsD.mk [] .nils) →
      Ru (cF F) (.reg [] fun c r s K => lnS (r q4) fun v0 => binK .sub v0 I1 fun v1 => lnS (r q4) fun v2 => binK .sub v2 I1 fun v3 => ixs n1 (r q4) v3 fun v4 => ld s v4 fun v5 => h_op3_buildS n1 n1 [zi] [(n0, n1, (.c (r q6)))] c r s fun v6 s => xA n1 n8 v5 v6 c r s fun v7 s => ixs n1 (r q4) v1 fun v8 => sto s n1 v8 v7 fun s => K [] s) ρ' s' (Out n1 (Then (fun ρ s => Ru (cF F) (.reg [q12] fun c r s K => binK .add (r q12) I1 fun v0 => K [v0] s) ρ s Q') Q')) := fun Q' hnw hQ' ρ' s' y' hk e12 e6 e5 e4 hG hL => by
    refine fin Q' ρ' s' y' D (IsD.mk [] .nils) i hk e12 e6 e5 e4 hG hL (by omega) (by simp) (fun v => ?_) ?_ hQ'
    · rw [grp_new hnw, List.map_append, hDg]; rfl
    · rw [grp_new hnw]
  refine Ru.seq (Ru.rs fun P hP => ?_)
  by_cases hc : i = (grp l i).2
  · simp -implicitDefEqProofs (disch := first | decide | omega) [e5, e6]
    refine Rg.ret (hP _ _ ?_)
    clear hP P
    refine doNew _ _ _ true hG (.up (by rfl) hk) (by simp (disch := first | decide | omega) [e12]) (by simp (disch := first | decide | omega) [e6]) (by simp (disch := first | decide | omega) [e4]) rfl rfl (.inl hc) ?_
    exact contN _ (.inl hc) fun _ _ h => h
  simp -implicitDefEqProofs (disch := first | decide | omega) [hk.e, e0, e5, e6, hcut']
  refine Rg.call (room_ok hG.fr.wf hz (by omega) fun g hg => hB g (hzm g hg)) fun vv s2 hv => ?_
  obtain ⟨k2, b2, rfl, hb2⟩ := hv
  simp -implicitDefEqProofs (disch := first | decide | omega)
  refine Rg.ret (hP _ _ ?_)
  clear hP P
  have hG2 : GS st s2 y D := ⟨hG.fr.trans k2, hG.sat.fr k2, hG.grw.fr k2, fun d hd => ⟨(hG.el d hd).1.fr k2, fun id hi => by
    obtain ⟨a1, a2, a3⟩ := (hG.el d hd).2 id hi
    exact ⟨a1, Nat.lt_of_lt_of_le a2 k2.next, a3⟩⟩⟩
  cases b2 with
  | false =>
    have hnr : ¬ RoomP (cutL l (grp l i).2 (i + 1)) := fun hh => by have := hb2.2 hh; cases this
    refine doNew _ _ _ true hG2 (.up (by rfl) hk) (by simp (disch := first | decide | omega) [e12]) (by simp (disch := first | decide | omega) [e6]) (by simp (disch := first | decide | omega) [e4]) rfl rfl (.inr hnr) ?_
    exact contN _ (.inr hnr) fun _ _ h => h
  | true =>
    have hroom := hb2.1 rfl
    have hold : ¬ (i = (grp l i).2 ∨ ¬ RoomP (cutL l (grp l i).2 (i + 1))) := fun hh => by
      rcases hh with hh | hh
      · exact hc hh
      · exact hh hroom
    have hi0 : 0 < i := by omega
    obtain ⟨D0, d, rfl, hL⟩ := hlast hi0
    have hdl := hns _ hDg d (by simp)
    refine Ru.cond rfl (fun h => by cases h) fun _ => Ru.skip ?_
    refine fin _ _ s2 y D0 d (grp l i).2 (.up (by rfl) hk) (by simp (disch := first | decide | omega) [e12]) (by simp (disch := first | decide | omega) [e6]) (by simp (disch := first | decide | omega) [e5]) (by simp (disch := first | decide | omega) [e4]) hG2 ⟨hL.grw.fr k2, hL.off⟩ (by simp at hDlen; omega) (by omega) (fun v => ?_) ?_ fun _ _ h => h
    · rw [grp_old hold]
      rw [List.map_append] at hDg ⊢
      rw [← hDg]
      exact (updLast_snoc _ _ _).symm
    · rw [grp_old hold]
end Go.Proofs.YticfndhcbjcklaaDoor.Ev
namespace Go.Proofs.YticfndhcbjcklaaDoor.Ev
set_option linter.unusedSimpArgs false
set_option linter.unusedVariables false
variable {st s t : St} {n i id off : Nat}
/-- all that belongs to the groups lies below nb -/
def GB (nb : Nat) (y : S) (D : List IsD) : Prop := (∀ id, sid y = some id → id < nb) ∧ ∀ d ∈ D, ∀ id, sid d.sl = some id → id < nb
theorem GS.gb {y : S} {D : List IsD} (h : GS st s y D) : GB s.next y D := ⟨h.grw.lt h.fr.wf, fun d hd id hi => ((h.el d hd).2 id hi).2.1⟩
theorem GS.kp {y : S} {D : List IsD} {o : Option Nat} {nb : Nat} (h : GS st s y D) (hw : WfS st) (hb : GB nb y D) (hn : st.next ≤ nb) (k : Kp o s t) (ho : ∀ id, o = some id → nb ≤ id) : GS st t y D := by
  have h1 : ∀ id, o = some id → sid y ≠ some id := fun id he hh => by have := ho id he; have := hb.1 id hh; omega
  refine ⟨k.fr h.fr (fun id he => by have := ho id he; omega) hw, h.sat.keep k h1, h.grw.keep k h1, fun d hd => ⟨(h.el d hd).1.keep k fun id he hh => by have := ho id he; have := hb.2 d hd id hh; omega, fun id hi => ?_⟩⟩
  obtain ⟨a1, a2, a3⟩ := (h.el d hd).2 id hi
  exact ⟨a1, Nat.lt_of_lt_of_le a2 k.next, a3⟩
theorem refGroups_ok (hg : Glo st) {x : S} {l : List GatesD} (hl : RepGs st x l) (h24 : l.length ≤ 24) (hr : ∀ g ∈ l, g.rows.length < 9223372036854775808) :
    Ca (cF F) 15 [.sc x] st (fun v s => Fr st s ∧ GrR l s v) := by
  refine Ca.of (hf := cf15) rfl rfl [q0] [.tmp q2, .tmp q3] rfl rfl rfl fun Q hQ => ?_
  have hw := hg.wf
  refine Ru.rs fun P hP => Rg.ret (hP _ _ ?_)
  clear hP P
  refine Ru.seq (Ru.rs fun P hP => ?_)
  simp -implicitDefEqProofs (disch := first | decide | omega)
  refine Rg.call (fits_ok hg hl (by omega) hr) fun vv s1 hv => ?_
  obtain ⟨k1, bb, rfl, hb1⟩ := hv
  simp -implicitDefEqProofs (disch := first | decide | omega)
  refine Rg.ret (hP _ _ ?_)
  clear hP P
  refine Ru.cond rfl (fun h => Ru.sreg (Rg.ret (Ru.ret (hQ _ _ (.two (a := .nils) (b := is 1) rfl rfl ⟨k1, .nils, 1, rfl, .inl ⟨fun hh => ?_, rfl, rfl⟩⟩))))) fun h => Ru.skip ?_
  · rw [hb1.2 hh] at h; simp at h
  have hV : AllV l := hb1.1 (by cases bb <;> simp at h ⊢)
  have hB := allV_base hV
  refine Ru.rs fun P hP => Rg.ret (hP _ _ ?_)
  clear hP P
  refine Ru.rs fun P hP => Rg.ret (hP _ _ ?_)
  clear hP P
  refine Ru.at (fun ρ => ρ q0 = .sc x ∧ ρ q4 = .sc .nils ∧ ρ q5 = iv 0) ⟨rfl, rfl, rfl⟩ fun ρ1 hE => ?_
  obtain ⟨e0, e4, e5⟩ := hE
  refine Ru.seq (Ru.block (Ru.lp [q0] (fun i : Nat => l.length - i) (fun a ρ s => a ≤ l.length ∧ ρ q5 = iv a ∧ (∃ y D, ρ q4 = .sc y ∧ GS st s y D ∧ D.map IsD.ns = (grp l a).1) ∧ (a = l.length ∨ a = (grp l a).2 ∨ ¬ RoomP (cutL l (grp l a).2 (a + 1))))
    ⟨0, by omega, e5, ⟨.nils, [], e4, ⟨k1, Sat.nil 1, Grw.nil _ _, fun d hd => by cases hd⟩, rfl⟩, .inr (.inl rfl)⟩ fun a ρ s hk hI => ?_))
  clear e4 e5
  obtain ⟨hal, e5, ⟨y, D, e4, hG, hDg⟩, hst⟩ := hI
  refine Ru.seq (Ru.rs fun P hP => ?_)
  simp -implicitDefEqProofs (disch := first | decide | omega) [hk.e, e0, e5, lnS_sat (hl.fr hG.fr).sat]
  refine Rg.ret (hP _ _ ?_)
  clear hP P
  refine Ru.cond rfl (fun h => Ru.skip ?_) fun h => Ru.exit ?_
  rotate_left
  · simp at h
    have : a = l.length := by omega
    subst this
    simp only [Then, Out, if_true]
    refine Ru.sreg (Rg.ret (Ru.ret (hQ _ _ (.two (a := y) (b := is 0) (by simp (disch := first | decide | omega) [e4]) rfl ⟨hG.fr, y, 0, rfl, .inr ⟨hV, rfl, D, ⟨hG.sat, fun d hd => (hG.el d hd).1⟩, hDg⟩⟩))))
  simp at h
  have hlt : a < l.length := by omega
  have hgl := grp_len l a
  have hDlen : D.length ≤ a := by have := congrArg List.length hDg; simp at this; omega
  have hstart : a = (grp l a).2 ∨ ¬ RoomP (cutL l (grp l a).2 (a + 1)) := hst.resolve_left (by omega)
  refine Ru.block (Ru.rs fun P hP => Rg.ret (hP _ _ ?_))
  clear hP P
  refine Ru.at (fun ρ' => Keep [q0] ρ' ρ1 ∧ ρ' q5 = iv a ∧ ρ' q4 = .sc y ∧ ρ' q6 = iv 1) ⟨by repeat first | exact hk | refine Keep.up (by rfl) ?_, by simp (disch := first | decide | omega) [e5], by simp (disch := first | decide | omega) [e4], rfl⟩ fun ρ2 hE => ?_
  clear hk e5 e4 ρ
  obtain ⟨hk, e5, e4, e6⟩ := hE
  refine Ru.seq (Ru.imp (Q := fun x ρ' u => x = .normal ∧ u = s ∧ Keep [q0, q4, q5] ρ' ρ2 ∧ ∃ n : Nat, ρ' q6 = iv n ∧ 0 < n ∧ a + n ≤ l.length ∧ grp l (a + n) = ((grp l a).1 ++ [rng a n], a) ∧ (a + n = l.length ∨ ¬ RoomP (cutL l a (a + n + 1)))) ?_ fun x' ρ' u hx => ?_)
  · refine Ru.block (Ru.lp [q0, q4, q5] (fun n : Nat => l.length - n) (fun n ρ' u => u = s ∧ ρ' q6 = iv n ∧ 0 < n ∧ a + n ≤ l.length ∧ grp l (a + n) = ((grp l a).1 ++ [rng a n], a))
      ⟨1, rfl, e6, by omega, by omega, by rw [grp_new hstart]; rfl⟩ fun n ρ' u hk2 hI => ?_)
    clear e6
    obtain ⟨hu, e6, hn0, hnl, hgn⟩ := hI
    subst u
    refine Ru.seq (Ru.rs fun P hP => ?_)
    by_cases hlast : a + n = l.length
    · simp -implicitDefEqProofs (disch := first | decide | omega) [hk2.e, hk.e, e0, e5, e6, lnS_sat (hl.fr hG.fr).sat]
      refine Rg.ret (hP _ _ (Ru.cond rfl (fun h => by cases h) fun h => Ru.exit ?_))
      simp only [Then, Out, if_true]
      exact ⟨trivial, trivial, by repeat first | exact .via (by rfl) hk2 (.refl _ _) | refine Keep.up (by rfl) ?_, n, by simp (disch := first | decide | omega) [e6], hn0, hnl, hgn, .inl hlast⟩
    obtain ⟨z, hcut, hz, hzl, hzm⟩ := cut_ok (hl.fr hG.fr) (a := a) (b := a + n + 1) (by omega) (by omega)
    have hcut' : ∀ (c : CallK) (r : Ev) (K : V → St → R), h_op3_sliceS 5 (.c (.sc x)) (some (.c (iv a))) (some (.c (iv ((a : Int) + n + 1)))) none c r s K = K (.sc z) s := hcut
    simp -implicitDefEqProofs (disch := first | decide | omega) [hk2.e, hk.e, e0, e5, e6, lnS_sat (hl.fr hG.fr).sat, hcut']
    refine Rg.call (refRoom_ok hG.fr.wf hz (by omega) fun g hg => hB g (hzm g hg)) fun vv s2 hv => ?_
    obtain ⟨hs2, b2, rfl, hb2⟩ := hv
    subst s2
    refine Rg.ret (hP _ _ ?_)
    clear hP P
    refine Ru.cond rfl (fun h => Ru.skip ?_) fun h => Ru.exit ?_
    rotate_left
    · simp only [Then, Out, if_true]
      exact ⟨trivial, trivial, by repeat first | exact .via (by rfl) hk2 (.refl _ _) | refine Keep.up (by rfl) ?_, n, by simp (disch := first | decide | omega) [e6], hn0, hnl, hgn, .inr fun hh => by rw [hb2.2 hh] at h; cases h⟩
    have hroom := hb2.1 h
    have hold : ¬ (a + n = (grp l (a + n)).2 ∨ ¬ RoomP (cutL l (grp l (a + n)).2 (a + n + 1))) := fun hh => by
      rw [hgn] at hh
      rcases hh with hh | hh
      · have hh : a + n = a := hh
        omega
      · exact hh hroom
    refine Ru.block (Ru.r1 fun P hP => ?_)
    simp -implicitDefEqProofs (disch := first | decide | omega) [e6]
    refine Rg.ret (hP _ _ ⟨by repeat first | exact hk2 | refine Keep.up (by rfl) ?_, n + 1, by omega, rfl, rfl, by omega, by omega, ?_⟩)
    show grp l (a + n + 1) = _
    rw [grp_old hold, hgn, rng_succ]
    exact Prod.ext (updLast_snoc _ _ _) rfl
  obtain ⟨rfl, hu, hk2, n, e6, hn0, hnl, hgn, hend⟩ := hx
  subst u
  simp only [Then]
  refine Ru.rs fun P hP => Rg.ret (hP _ _ ?_)
  clear hP P
  refine Ru.seq (Ru.rs fun P hP => Rg.ret (hP _ _ ?_))
  clear hP P
  refine Ru.at (fun ρ' => Keep [q0] ρ' ρ1 ∧ ρ' q5 = iv a ∧ ρ' q4 = .sc y ∧ ρ' q6 = iv n ∧ ρ' q7 = .sc .nils ∧ ρ' q8 = iv 0) ⟨by repeat first | exact .via (by rfl) hk2 hk | refine Keep.up (by rfl) ?_, by simp (disch := first | decide | omega) [hk2.e, e5], by simp (disch := first | decide | omega) [hk2.e, e4], by simp (disch := first | decide | omega) [e6], rfl, rfl⟩ fun ρ3 hE => ?_
  clear hk hk2 e5 e4 e6 ρ'
  obtain ⟨hk, e5, e4, e6, e7, e8⟩ := hE
  have hgb := hG.gb
  have hnb : st.next ≤ s.next := hG.fr.next
  generalize hnbe : s.next = nb at *
  have hI0 : ∃ z, ρ3 q7 = .sc z ∧ GS st s y D ∧ nb ≤ s.next ∧ Sat s z 0 1 ((rng a 0).map is) ∧ Grw nb s z 0 1 := ⟨.nils, e7, hG, by omega, Sat.nil 1, Grw.nil _ _⟩
  refine Ru.block (Ru.lp [q0, q4, q5, q6] (fun j : Nat => n - j) (fun j ρ s => j ≤ n ∧ ρ q8 = iv j ∧ ∃ z, ρ q7 = .sc z ∧ GS st s y D ∧ nb ≤ s.next ∧ Sat s z j 1 ((rng a j).map is) ∧ Grw nb s z j 1)
    ⟨0, by omega, e8, hI0⟩ fun j ρ s hk2 hI => ?_)
  clear hI0 e7 e8 hG hnbe
  obtain ⟨hj, e8, z, e7, hG, hns, hz, hgz⟩ := hI
  refine Ru.seq (Ru.rs fun P hP => ?_)
  simp -implicitDefEqProofs (disch := first | decide | omega) [hk2.e, e6, e8]
  refine Rg.ret (hP _ _ ?_)
  clear hP P
  refine Ru.cond rfl (fun h => Ru.skip ?_) fun h => Ru.exit ?_
  · simp at h
    obtain ⟨z', s', hA, g1, g2, g3, g4, g5⟩ := app_bld (b := 8) (k := 1) (nc := [is ((a : Int) + j)]) hG.fr.wf hz hgz hns (by decide) rfl (by omega) (by omega)
    have hfill : ∀ tm K, fillK tm K [(0, 1, .c (iv ((a : Int) + j)))] [is 0] = K [is ((a + j : Nat) : Int)] := fun tm K => (fill_sc tm K _ 0 (is ((a + j : Nat) : Int)) [] (by simp)).trans (by rw [fill_nil]; rfl)
    refine Ru.seq (Ru.block (Ru.r1 fun P hP => ?_))
    simp -implicitDefEqProofs (disch := first | decide | omega) [hk2.e, e5, e7, e8, buildS_eq, hfill, hA]
    refine Rg.ret (hP _ _ ?_)
    clear hP P
    simp only [Then, Out]
    refine Ru.r1 fun P hP => ?_
    simp -implicitDefEqProofs (disch := first | decide | omega) [e8]
    refine Rg.ret (hP _ _ ⟨by repeat first | exact hk2 | refine Keep.up (by rfl) ?_, j + 1, by omega, by omega, rfl, z', by simp (disch := first | decide | omega), hG.kp hw hgb hnb g3 hgz.sid, by omega, ?_, g2⟩)
    rw [rng_succ, List.map_append]; exact g1
  simp at h
  have hjn : j = n := by omega
  subst hjn
  simp only [Then, Out, if_true]
  have hrl : (rng a j).length = j := by simp [rng]
  have hznb := hgz.sid
  have hzlt := hgz.lt hG.fr.wf
  obtain ⟨y', s', hA, hG2, _⟩ := hG.push hw (IsD.mk (rng a j) z) (by omega) (by unfold RepI; rw [hrl]; exact hz) fun id hi => by
    have h1 := hznb id hi
    have h2 := hzlt id hi
    exact ⟨by omega, h2, fun hh => by have := hgb.1 id hh; omega⟩
  have hA' : ∀ (cl : CallK) (ρ : Ev) (K : V → St → R), xA 1 24 (.sc y) (.sc (.slice s.next 0 1 (some 1) 1)) cl ρ (new s [z]) K = K (.sc y') s' := hA
  have hfill : ∀ tm K, fillK tm K [(0, 1, .c (.sc z))] [zn] = K [z] := fun tm K => (fill_sc tm K _ 0 z [] (by simp)).trans (by rw [fill_nil]; rfl)
  refine Ru.rs fun P hP => ?_
  simp -implicitDefEqProofs (disch := first | decide | omega) [hk2.e, e4, e7, buildS_eq, hfill, hA']
  refine Rg.ret (hP _ _ ?_)
  clear hP P
  refine Ru.r1 fun P hP => ?_
  simp -implicitDefEqProofs (disch := first | decide | omega) [hk2.e, e5, e6]
  refine Rg.ret (hP _ _ ⟨by repeat first | exact .via (by rfl) hk2 hk | refine Keep.up (by rfl) ?_, a + j, by omega, by omega, rfl, ⟨y', _, by simp (disch := first | decide | omega), hG2, ?_⟩, ?_⟩)
  · rw [hgn, List.map_append, hDg]; rfl
  · rw [hgn]
    rcases hend with he | he
    · exact .inl he
    · exact .inr (.inr he)
end Go.Proofs.YticfndhcbjcklaaDoor.Ev
