/- What the listed package variables hold, and the evaluator's runs, by the kernel; no conditions. -/
import Derived.Test.YticfndhcbjcklaaDoorMb
namespace Go.Proofs.YticfndhcbjcklaaDoor.Ev
set_option linter.unusedSimpArgs false
set_option linter.unusedVariables false
variable {st s t : St} {n i id off : Nat}
structure LimG (p : GatesD) : Prop where
  base : Base p
  rows : ∀ i, i < p.rows.length → OkRow (pC p.field.toNat) p.vars p.rows i
theorem limits_ok (hw : WfS st) (p : GatesD) (hp : RepRows st p.sl p.rows) (hlen : p.rows.length < 9223372036854775808) :
    Ca (cF F) 61 [.agg (gC p)] st (fun v s => Fr st s ∧ ∃ b, v = bl b ∧ (b = true ↔ LimG p)) := by
  refine Ca.of (hf := cf61) rfl rfl [q0] [.tmp q2] rfl rfl rfl fun Q hQ => ?_
  have f1 : Fr st (new st (gC p)) := (Fr.refl hw).new _
  have hb : ∀ {t}, Fr (new st (gC p)) t → ∀ i y, (gC p)[i]? = some y → rd t st.next i = some y := fun k i y hy => k.rd (by rw [rd_new, if_pos rfl]; exact hy)
  refine Ru.rs fun P hP => ?_
  simp -implicitDefEqProofs (disch := first | decide | omega)
  refine Rg.ret (hP _ _ ?_)
  clear hP P
  generalize new st (gC p) = s1 at *
  have r1 := Fr.refl f1.wf
  have no : ∀ (Q' : X → Ev → St → Prop) (ρ : Ev) (t : St), Q' .ret = Q .ret → Fr s1 t → ¬ LimG p → Ru (cF F) (.seq (.reg [q2] fun c r s K => K [ff] s) .ret) ρ t Q' := fun Q' ρ t he k hn =>
    Ru.sreg (Rg.ret (Ru.ret (he ▸ hQ _ _ (.one rfl ⟨f1.trans k, false, rfl, by simp [hn]⟩))))
  refine Ru.seq (Ru.rs fun P hP => ?_)
  simp -implicitDefEqProofs (disch := first | decide | omega) [hb r1 0 _ rfl]
  refine Rg.call (refV_ok _ _) fun v s h => ?_
  obtain ⟨hs, vb, rfl, hvb⟩ := h
  subst s
  by_cases d0 : 0 ≤ p.field ∧ p.field < 4
  rotate_left
  · have : vb = false := by rw [← Bool.not_eq_true]; exact fun h => d0 (hvb.1 h)
    subst this
    simp -implicitDefEqProofs +contextual (disch := first | decide | omega) [-Bool.not_or, -Bool.not_and, hb r1 1 _ rfl, hb r1 2 _ rfl, hb r1 3 _ rfl, hb r1 4 _ rfl, lnS_sat (hp.fr f1)]
    refine Rg.ret (hP _ _ ?_)
    exact Ru.cond rfl (fun h => no _ _ _ rfl r1 fun hh => d0 ⟨hh.base.f0, hh.base.f4⟩) fun h => by simp at h
  have hv := hvb.2 d0
  subst hv
  by_cases d1 : 0 ≤ p.pub
  rotate_left
  · simp -implicitDefEqProofs +contextual (disch := first | decide | omega) [-Bool.not_or, -Bool.not_and, hb r1 1 _ rfl, hb r1 2 _ rfl, hb r1 3 _ rfl, hb r1 4 _ rfl, lnS_sat (hp.fr f1)]
    refine Rg.ret (hP _ _ ?_)
    exact Ru.cond rfl (fun h => no _ _ _ rfl r1 fun hh => by have := hh.base; obtain ⟨_, _, _, _, _, _, _, _, _⟩ := this; omega) fun h => by simp at h
  by_cases d2 : p.pub ≤ 16
  rotate_left
  · simp -implicitDefEqProofs +contextual (disch := first | decide | omega) [-Bool.not_or, -Bool.not_and, hb r1 1 _ rfl, hb r1 2 _ rfl, hb r1 3 _ rfl, hb r1 4 _ rfl, lnS_sat (hp.fr f1)]
    refine Rg.ret (hP _ _ ?_)
    exact Ru.cond rfl (fun h => no _ _ _ rfl r1 fun hh => by have := hh.base; obtain ⟨_, _, _, _, _, _, _, _, _⟩ := this; omega) fun h => by simp at h
  by_cases d3 : 0 ≤ p.sec
  rotate_left
  · simp -implicitDefEqProofs +contextual (disch := first | decide | omega) [-Bool.not_or, -Bool.not_and, hb r1 1 _ rfl, hb r1 2 _ rfl, hb r1 3 _ rfl, hb r1 4 _ rfl, lnS_sat (hp.fr f1)]
    refine Rg.ret (hP _ _ ?_)
    exact Ru.cond rfl (fun h => no _ _ _ rfl r1 fun hh => by have := hh.base; obtain ⟨_, _, _, _, _, _, _, _, _⟩ := this; omega) fun h => by simp at h
  by_cases d4 : p.sec ≤ 20000
  rotate_left
  · simp -implicitDefEqProofs +contextual (disch := first | decide | omega) [-Bool.not_or, -Bool.not_and, hb r1 1 _ rfl, hb r1 2 _ rfl, hb r1 3 _ rfl, hb r1 4 _ rfl, lnS_sat (hp.fr f1)]
    refine Rg.ret (hP _ _ ?_)
    exact Ru.cond rfl (fun h => no _ _ _ rfl r1 fun hh => by have := hh.base; obtain ⟨_, _, _, _, _, _, _, _, _⟩ := this; omega) fun h => by simp at h
  simp -implicitDefEqProofs +contextual (disch := first | decide | omega) [-Bool.not_or, -Bool.not_and, hb r1 1 _ rfl, hb r1 2 _ rfl, hb r1 3 _ rfl, hb r1 4 _ rfl, lnS_sat (hp.fr f1)]
  refine Rg.ret (hP _ _ ?_)
  clear hP P
  refine Ru.cond rfl (fun h => no _ _ _ rfl r1 fun hh => ?_) fun h => Ru.skip ?_
  · simp at h
    have := hh.base; obtain ⟨_, _, _, _, _, _, _, _, _⟩ := this; omega
  simp at h
  have base : Base p := ⟨d0.1, d0.2, d1, d2, d3, d4, by omega, by omega, by omega⟩
  refine Ru.seq (Ru.rs fun P hP => Rg.ret (hP _ _ ?_))
  clear hP P
  refine Ru.at (fun ρ => ρ q1 = .sc (.ptr st.next 0) ∧ ρ q3 = iv 0) ⟨rfl, rfl⟩ fun ρ1 hE => ?_
  obtain ⟨e1, e3⟩ := hE
  refine Ru.block (Ru.lp [q1] (fun j : Nat => p.rows.length - j) (fun i ρ s => Fr s1 s ∧ i ≤ p.rows.length ∧ ρ q3 = iv i ∧ ∀ j, j < i → ∃ g, p.rows[j]? = some g ∧ Formed (pC p.field.toNat) p.vars g ∧ (g.kind = 3 → ∃ g2, p.rows[j + 1]? = some g2 ∧ ∀ k, k < 4 → 0 ≤ g2.w k))
    ⟨0, r1, by omega, e3, fun i hi => by omega⟩ fun i ρ s hk hI => ?_)
  clear e3
  obtain ⟨hf, hi, e3, hall⟩ := hI
  refine Ru.seq (Ru.rs fun P hP => ?_)
  simp -implicitDefEqProofs (disch := first | decide | omega) [hk.e, e1, e3, hb hf 4 _ rfl, lnS_sat (hp.fr (f1.trans hf))]
  refine Rg.ret (hP _ _ ?_)
  clear hP P
  refine Ru.cond rfl (fun h => Ru.skip ?_) fun h => Ru.exit ?_
  rotate_left
  · simp at h
    have : i = p.rows.length := by omega
    subst this
    simp only [Then, Out, if_true]
    refine Ru.sreg (Rg.ret (Ru.ret (hQ _ _ (.one rfl ⟨f1.trans hf, true, rfl, ?_⟩))))
    simp only [true_iff]
    refine ⟨base, fun i hi => ?_⟩
    obtain ⟨g, h1, h2, h3⟩ := hall i hi
    refine ⟨g, h1, h2, fun hk => ?_⟩
    obtain ⟨g2, h4, h5⟩ := h3 hk
    have h6 := (List.getElem?_eq_some_iff.1 h4).1
    obtain ⟨g3, h7, h8, _⟩ := hall (i + 1) h6
    rw [h4] at h7; cases h7
    exact ⟨g2, h4, fun j hj => ⟨h5 j hj, (h8.2.2.2.2.2.2 j hj).2.1⟩⟩
  simp at h
  have hlt : i < p.rows.length := by omega
  have hgi := List.getElem?_eq_getElem hlt
  generalize p.rows[i] = g at hgi
  obtain ⟨rid, ro, hix, hgc, hrsid⟩ := elt (f := gateC) (z := 11) (fun _ => rfl) (hp.fr (f1.trans hf)) hgi
  have hgN : rdN s rid ro 11 = some (gateC g) := rdN_get rfl hgc
  have hpN : rdN s st.next 0 5 = some (gC p) := rdN_get rfl fun i x hx => by rw [Nat.zero_add]; exact hb hf i x hx
  have norow : ¬ OkRow (pC p.field.toNat) p.vars p.rows i → ¬ LimG p := fun hn hh => hn (hh.rows i hlt)
  refine Ru.seq (Ru.block (Ru.seq (Ru.ds fun P hP => ?_)))
  simp -implicitDefEqProofs (disch := first | decide | omega) [hk.e, e1, e3, hb hf 4 _ rfl, hpN, hix, hgN]
  refine Rg.dc (fun v => ∃ b, v = bl b ∧ (b = true ↔ Formed (pC p.field.toNat) p.vars g)) hf.wf (by decide) (by decide) ((rformed_ok (wf_setLow (h := hf.wf)) p g d0.1 d0.2).imp fun v s h => h) fun v s4 k4 hv => ?_
  obtain ⟨vf, rfl, hvf⟩ := hv
  simp -implicitDefEqProofs (disch := first | decide | omega)
  refine Rg.ret (hP _ _ ?_)
  clear hP P
  have hf4 := hf.trans k4
  refine Ru.cond rfl (fun h => no _ _ _ rfl hf4 (norow fun hh => ?_)) fun h => Ru.skip ?_
  · obtain ⟨g', h1, h2, _⟩ := hh
    rw [hgi] at h1; cases h1
    rw [hvf.2 h2] at h; cases h
  simp at h
  have hfm := hvf.1 h
  have hg4 : ∀ i y, (gateC g)[i]? = some y → rd s4 rid (ro + i) = some y := fun i y hy => k4.rd (hgc i y hy)
  have m0 : rd s4 rid ro = some (bs g.kind) := hg4 0 _ rfl
  have nxt : ∀ (Q' : X → Ev → St → Prop) (ρ' : Ev) (t : St), Fr s1 t → Keep [q1] ρ' ρ1 → ρ' q3 = iv i → (g.kind = 3 → ∃ g2, p.rows[i + 1]? = some g2 ∧ ∀ k, k < 4 → 0 ≤ g2.w k) →
      (∀ ρ' s', (Keep [q1] ρ' ρ1 ∧ ∃ a', p.rows.length - a' < p.rows.length - i ∧ Fr s1 s' ∧ a' ≤ p.rows.length ∧ ρ' q3 = iv a' ∧ ∀ j, j < a' → ∃ g, p.rows[j]? = some g ∧ Formed (pC p.field.toNat) p.vars g ∧ (g.kind = 3 → ∃ g2, p.rows[j + 1]? = some g2 ∧ ∀ k, k < 4 → 0 ≤ g2.w k)) → Q' .normal ρ' s') →
      Ru (cF F) (.reg [q3] fun c r s K => binK .add (r q3) I1 fun v0 => K [v0] s) ρ' t Q' := fun Q' ρ' t k hk e3 hnx hQ' => by
    refine Ru.r1 fun P hP => ?_
    simp -implicitDefEqProofs (disch := first | decide | omega) [e3]
    refine Rg.ret (hP _ _ (hQ' _ _ ⟨.up (by rfl) hk, i + 1, by omega, k, by omega, rfl, fun j hj => ?_⟩))
    rcases (show j < i ∨ j = i by omega) with hij | rfl
    · exact hall j hij
    · exact ⟨g, hgi, hfm, hnx⟩
  refine Ru.seq (Ru.rs fun P hP => ?_)
  simp -implicitDefEqProofs (disch := first | decide | omega) [hk.e, e1, e3, hb hf4 4 _ rfl, hix, m0]
  refine Rg.ret (hP _ _ ?_)
  clear hP P
  refine Ru.cond rfl (fun h => Ru.exit ?_) fun h => Ru.skip ?_
  · simp at h
    simp only [Then, Out, if_true]
    exact nxt _ _ _ hf4 (by repeat first | exact hk | refine Keep.up (by rfl) ?_) (by simp (disch := first | decide | omega) [e3]) (fun h3 => absurd h3 h) fun _ _ h => h
  simp at h
  refine Ru.seq (Ru.rs fun P hP => ?_)
  simp -implicitDefEqProofs (disch := first | decide | omega) [hk.e, e1, e3, hb hf4 4 _ rfl, lnS_sat (hp.fr (f1.trans hf4))]
  refine Rg.ret (hP _ _ ?_)
  clear hP P
  refine Ru.cond rfl (fun h' => no _ _ _ rfl hf4 (norow fun hh => ?_)) fun h' => Ru.skip ?_
  · obtain ⟨g', h1, h2, h3⟩ := hh
    rw [hgi] at h1; cases h1
    obtain ⟨g2, h4, _⟩ := h3 (by omega)
    have := (List.getElem?_eq_some_iff.1 h4).1
    simp at h'; omega
  simp at h'
  have hlt2 : i + 1 < p.rows.length := by omega
  have hgj := List.getElem?_eq_getElem hlt2
  generalize p.rows[i + 1] = g2 at hgj
  obtain ⟨id2, o2, hix2, hc2, _⟩ := elt (f := gateC) (z := 11) (fun _ => rfl) (hp.fr (f1.trans hf4)) hgj
  have hix2' : ∀ K, ixs 11 (V.sc p.sl) (iv ((i : Int) + 1)) K = K (.sc (.ptr id2 o2)) := fun K => hix2 K
  refine Ru.rs fun P hP => Rg.ret (hP _ _ ?_)
  clear hP P
  refine Ru.at (fun ρ' => Keep [q1] ρ' ρ1 ∧ ρ' q3 = iv i ∧ ρ' q4 = iv 0) ⟨by repeat first | exact hk | refine Keep.up (by rfl) ?_, by simp (disch := first | decide | omega) [e3], rfl⟩ fun ρ2 hE => ?_
  clear hk e3 ρ
  obtain ⟨hk, e3, e4⟩ := hE
  refine Ru.block (Ru.lp [q1, q3] (fun j : Nat => 4 - j) (fun j ρ s' => s' = s4 ∧ j ≤ 4 ∧ ρ q4 = iv j ∧ ∀ k, k < j → 0 ≤ g2.w k)
    ⟨0, rfl, by omega, e4, fun i hi => by omega⟩ fun j ρ s' hk2 hI => ?_)
  clear e4
  obtain ⟨hs', hj, e4, hall2⟩ := hI
  subst s'
  refine Ru.seq (Ru.rs fun P hP => ?_)
  simp -implicitDefEqProofs (disch := first | decide | omega) [e4]
  refine Rg.ret (hP _ _ ?_)
  clear hP P
  refine Ru.cond rfl (fun h => Ru.skip ?_) fun h => Ru.exit ?_
  · simp at h
    have hj4 : j < 4 := by omega
    have mw : rd s4 id2 (o2 + (1 + j)) = some (is (g2.w j)) := hc2 (1 + j) (is (g2.w j)) (by
      rcases (show j = 0 ∨ j = 1 ∨ j = 2 ∨ j = 3 by omega) with rfl | rfl | rfl | rfl <;> rfl)
    rw [← Nat.add_assoc] at mw
    refine Ru.seq (Ru.block (Ru.rs fun P hP => ?_))
    simp -implicitDefEqProofs (disch := first | decide | omega) [hk2.e, hk.e, e1, e3, e4, hb hf4 4 _ rfl, hix2', mw]
    refine Rg.ret (hP _ _ ?_)
    clear hP P
    refine Ru.cond rfl (fun h => no _ _ _ rfl hf4 (norow fun hh => ?_)) fun hbf => Ru.skip ?_
    · obtain ⟨g', h1, h2, h3⟩ := hh
      rw [hgi] at h1; cases h1
      obtain ⟨g3, h5, h6⟩ := h3 (by omega)
      rw [hgj] at h5; cases h5
      have := (h6 j hj4).1
      simp at h; omega
    simp at hbf
    simp only [Then, Out]
    refine Ru.r1 fun P hP => ?_
    simp -implicitDefEqProofs (disch := first | decide | omega) [e4]
    refine Rg.ret (hP _ _ ⟨by repeat first | exact hk2 | refine Keep.up (by rfl) ?_, j + 1, by omega, rfl, by omega, rfl, fun i hi => ?_⟩)
    rcases (show i < j ∨ i = j by omega) with hij | rfl
    · exact hall2 i hij
    · exact hbf
  simp at h
  have hj4 : j = 4 := by omega
  subst hj4
  simp only [Then, Out, if_true]
  exact nxt _ _ _ hf4 (by repeat first | exact .via (by rfl) hk2 hk | refine Keep.up (by rfl) ?_) (by simp (disch := first | decide | omega) [hk2.e, e3]) (fun _ => ⟨g2, hgj, hall2⟩) fun _ _ h => h
end Go.Proofs.YticfndhcbjcklaaDoor.Ev
namespace Go.Proofs.YticfndhcbjcklaaDoor.Ev
set_option linter.unusedSimpArgs false
set_option linter.unusedVariables false
variable {st s t : St} {n i id off : Nat}
def eL (n m k : Nat) : List Int := (List.range n).map fun j => if j < k then (if j < m then 0 else -1) else 0
theorem eL_len (n m k : Nat) : (eL n m k).length = n := by simp [eL]
theorem eL_zero (n m : Nat) : eL n m 0 = List.replicate n 0 := by
  apply List.ext_getElem
  · simp [eL]
  · intro i h1 h2; simp [eL]
theorem eL_end (n m : Nat) : eL n m n = d0L n m := by
  apply List.ext_getElem
  · simp [eL, d0L]
  · intro i h1 h2
    simp [eL, d0L]
    intro h; simp [eL] at h1; omega
theorem eL_set (n m k : Nat) (x : Int) (hx : x = if k < m then 0 else -1) (h : k < n) : (eL n m k).set k x = eL n m (k + 1) := by
  apply List.ext_getElem
  · simp [eL]
  · intro i h1 h2
    simp [eL, List.getElem_set]
    by_cases hk : k = i
    · subst hk; simp [hx]
    · simp only [hk, if_false]
      by_cases h3 : i < k
      · simp [h3, show i < k + 1 by omega]
      · simp [h3, show ¬ i < k + 1 by omega]
theorem most_list (d : List Int) (g : GateD) : (readsL g).foldl (fun m k => max m (dat d (g.w k))) 0 = mostK d g 4 := by
  have h : readsL g = [0, 1, 2, 3].filter (readsD g) := rfl
  rw [h, filt4]
  unfold mostK mostK mostK mostK mostK
  cases readsD g 0 <;> cases readsD g 1 <;> cases readsD g 2 <;> cases readsD g 3 <;> rfl
theorem order_ok (hw : WfS st) (p : GatesD) (hp : RepRows st p.sl p.rows) (hlen : p.rows.length < 9223372036854775808) (hG : LimG p) :
    Ca (cF F) 62 [.agg (gC p)] st (fun v s => Fr st s ∧ ∃ y b, v = .tup [(false, [y]), (false, [.bool b])] ∧ (b = true ↔ ∃ d, walkD p.rows (d0L p.vars.toNat (p.pub + p.sec).toNat) p.rows.length = some d ∧ (-1 : Int) ∉ d)) := by
  refine Ca.of (hf := cf62) rfl rfl [q0] [.tmp q2, .tmp q3] rfl rfl rfl fun Q hQ => ?_
  obtain ⟨⟨c1, c2, c3, c4, c5, c6, c7, c8, c9⟩, hrows⟩ := hG
  obtain ⟨n, hn⟩ := Int.eq_ofNat_of_zero_le (show 0 ≤ p.vars by omega)
  obtain ⟨m, hm⟩ := Int.eq_ofNat_of_zero_le (show 0 ≤ p.pub + p.sec by omega)
  rw [show (p.pub + p.sec).toNat = m by omega, show p.vars.toNat = n by omega] at *
  rw [hn] at hrows
  have f1 : Fr st (new st (gC p)) := (Fr.refl hw).new _
  have hb : ∀ {t}, Fr (new st (gC p)) t → ∀ i y, (gC p)[i]? = some y → rd t st.next i = some y := fun k i y hy => k.rd (by rw [rd_new, if_pos rfl]; exact hy)
  refine Ru.rs fun P hP => ?_
  simp -implicitDefEqProofs (disch := first | decide | omega)
  refine Rg.ret (hP _ _ ?_)
  clear hP P
  have hn1 : (new st (gC p)).next = st.next + 1 := rfl
  generalize new st (gC p) = s1 at *
  have r1 := Fr.refl f1.wf
  have no : ∀ (Q' : X → Ev → St → Prop) (ρ : Ev) (t : St), Q' .ret = Q .ret → Fr st t → ¬ (∃ d, walkD p.rows (d0L n m) p.rows.length = some d ∧ (-1 : Int) ∉ d) → Ru (cF F) (.seq (.reg [q2, q3] fun c r s K => K [(.sc zn), ff] s) .ret) ρ t Q' := fun Q' ρ t he k hn =>
    Ru.sreg (Rg.ret (Ru.ret (he ▸ hQ _ _ (.two rfl rfl ⟨k, zn, false, rfl, by simp only [Bool.false_eq_true, false_iff]; exact hn⟩))))
  refine Ru.rs fun P hP => ?_
  simp -implicitDefEqProofs (disch := first | decide | omega) [hb r1 1 _ rfl, hn, xM_eq]
  refine Rg.ret (hP _ _ ?_)
  clear hP P
  have f2 := fr_mkz (n := n) r1 [is 0] 1
  have o2 : Own (mkz s1 n 1 [is 0]) s1.next n := by have := own_mkz (st := s1) (n := n) [is 0] 1; rwa [Nat.mul_one] at this
  have hI0 : Sat (mkz s1 n 1 [is 0]) (.slice s1.next 0 n (some n) 1) n 1 ((eL n m 0).map is) := by
    refine sat_of_rd o2 (by simp [eL]) (fun m hm => by cases hm; exact Nat.le_refl _) fun i x hx => ?_
    rw [eL_zero, List.map_replicate, List.getElem?_replicate] at hx
    split at hx
    · cases hx
      rw [rd_mkz, if_pos rfl, if_pos (by omega)]
      simp [zAt, Nat.mod_one]
    · cases hx
  have hids0 : s1.next < (mkz s1 n 1 [is 0]).next := by rw [next_mkz]; omega
  generalize mkz s1 n 1 [is 0] = s2 at *
  generalize hid : s1.next = id at *
  have hf2 := f1.trans f2
  refine Ru.seq (Ru.rs fun P hP => Rg.ret (hP _ _ ?_))
  clear hP P
  refine Ru.at (fun ρ => ρ q1 = .sc (.ptr st.next 0) ∧ ρ q4 = .sc (.slice id 0 n (some n) 1) ∧ ρ q5 = iv 0) ⟨rfl, rfl, rfl⟩ fun ρ1 hE => ?_
  obtain ⟨e1, e4, e5⟩ := hE
  have hbx : ∀ i y, (gC p)[i]? = some y → rd s2 st.next i = some y := fun i y hy => hb f2 i y hy
  refine Ru.block (Ru.lp [q1, q4] (fun k : Nat => n - k) (fun k ρ s => Fr st s ∧ (∀ i y, (gC p)[i]? = some y → rd s st.next i = some y) ∧ id < s.next ∧ k ≤ n ∧ ρ q5 = iv k ∧ Own s id n ∧ Sat s (.slice id 0 n (some n) 1) n 1 ((eL n m k).map is))
    ⟨0, hf2, hbx, hids0, by omega, e5, o2, hI0⟩ fun k ρ s hk hI => ?_)
  clear e5 o2 hI0 hids0 hbx
  obtain ⟨hf, hbs, hids, hkn, e5, ho, hD⟩ := hI
  refine Ru.seq (Ru.rs fun P hP => ?_)
  simp -implicitDefEqProofs (disch := first | decide | omega) [hk.e, e4, e5]
  refine Rg.ret (hP _ _ ?_)
  clear hP P
  refine Ru.cond rfl (fun h => Ru.skip ?_) fun h => Ru.exit ?_
  · simp at h
    have hst : ∀ (u : St) (x : Int), Own u id n → ∀ (K : St → R), sto u 1 (V.sc (S.ptr id k)) (.sc (is x)) K = K (wr u id k [is x]) := fun u x ho K => sto_sc K ho (by omega)
    refine Ru.seq (Ru.block (Ru.rs fun P hP => ?_))
    simp -implicitDefEqProofs (disch := first | decide | omega) [hk.e, e4, e5, hst _ _ ho]
    refine Rg.ret (hP _ _ ?_)
    clear hP P
    have hD1 := hD.set ho (by omega) (show k < n by omega) (is (-1))
    rw [Nat.zero_add, ← List.map_set] at hD1
    have kp := kp_wr (off := k) (l := [is (-1)]) hf.wf hids
    have ho1 : Own (wr s id k [is (-1)]) id n := ho.wr
    have hids1 : id < (wr s id k [is (-1)]).next := by rw [wr_next]; exact hids
    have hf1 := kp.fr hf (fun i h => by cases h; omega) hw
    have hbs1 : ∀ i y, (gC p)[i]? = some y → rd (wr s id k [is (-1)]) st.next i = some y := fun i y hy => kp.rd (by simp; omega) (hbs i y hy)
    generalize wr s id k [is (-1)] = u at *
    refine Ru.rs fun P hP => ?_
    simp -implicitDefEqProofs (disch := first | decide | omega) [hk.e, e1, e5, hbs1 2 _ rfl, hbs1 3 _ rfl]
    refine Rg.ret (hP _ _ ?_)
    clear hP P
    refine Ru.cond rfl (fun h' => Ru.r1 fun P hP => ?_) fun h' => Ru.skip ?_
    · simp at h'
      simp -implicitDefEqProofs (disch := first | decide | omega) [hk.e, e4, e5, hst _ _ ho1]
      refine Rg.ret (hP _ _ ?_)
      clear hP P
      simp only [Then, Out]
      refine Ru.r1 fun P hP => ?_
      simp -implicitDefEqProofs (disch := first | decide | omega) [e5]
      have hD2 := hD1.set ho1 (by omega) (show k < n by omega) (is 0)
      rw [Nat.zero_add, ← List.map_set, List.set_set, eL_set n m k 0 (by rw [if_pos (by omega)]) (by omega)] at hD2
      have kp2 := kp_wr (off := k) (l := [is 0]) hf1.wf hids1
      exact Rg.ret (hP _ _ ⟨by repeat first | exact hk | refine Keep.up (by rfl) ?_, k + 1, by omega, kp2.fr hf1 (fun i h => by cases h; omega) hw, fun i y hy => kp2.rd (by simp; omega) (hbs1 i y hy), by rw [wr_next]; exact hids1, by omega, rfl, ho1.wr, hD2⟩)
    · simp at h'
      simp only [Then, Out]
      refine Ru.r1 fun P hP => ?_
      simp -implicitDefEqProofs (disch := first | decide | omega) [e5]
      rw [eL_set n m k (-1) (by rw [if_neg (by omega)]) (by omega)] at hD1
      exact Rg.ret (hP _ _ ⟨by repeat first | exact hk | refine Keep.up (by rfl) ?_, k + 1, by omega, hf1, hbs1, hids1, by omega, rfl, ho1, hD1⟩)
  simp at h
  have : k = n := by omega
  subst this
  rw [eL_end] at hD
  simp only [Then, Out, if_true]
  refine Ru.seq (Ru.rs fun P hP => Rg.ret (hP _ _ ?_))
  clear hP P
  refine Ru.at (fun ρ' => ρ' q1 = .sc (.ptr st.next 0) ∧ ρ' q4 = .sc (.slice id 0 k (some k) 1) ∧ ρ' q6 = iv 0) ⟨by simp (disch := first | decide | omega) [hk.e, e1], by simp (disch := first | decide | omega) [hk.e, e4], rfl⟩ fun ρ2 hE => ?_
  clear hk e1 e4 e5
  obtain ⟨e1, e4, e6⟩ := hE
  refine Ru.block (Ru.lp [q1, q4] (fun j : Nat => p.rows.length - j) (fun i ρ s => Fr st s ∧ (∀ i y, (gC p)[i]? = some y → rd s st.next i = some y) ∧ id < s.next ∧ i ≤ p.rows.length ∧ ρ q6 = iv i ∧ Own s id k ∧ ∃ d, walkD p.rows (d0L k m) i = some d ∧ d.length = k ∧ Sat s (.slice id 0 k (some k) 1) k 1 (d.map is))
    ⟨0, hf, hbs, hids, by omega, e6, ho, d0L k m, rfl, d0L_len _ _, hD⟩ fun i ρ s hk hI => ?_)
  clear e6 ho hD hids hbs hf
  obtain ⟨hf, hbs, hids, hi, e6, ho, d, hwk, hdl, hD⟩ := hI
  refine Ru.seq (Ru.rs fun P hP => ?_)
  simp -implicitDefEqProofs (disch := first | decide | omega) [hk.e, e1, e6, hbs 4 _ rfl, lnS_sat (hp.fr hf)]
  refine Rg.ret (hP _ _ ?_)
  clear hP P
  refine Ru.cond rfl (fun h => Ru.skip ?_) fun h => Ru.exit ?_
  rotate_left
  · simp at h
    have : i = p.rows.length := by omega
    subst this
    simp only [Then, Out, if_true]
    have hge := walk_keep (d0L_ge k m) _ _ hwk
    refine Ru.seq (Ru.rs fun P hP => Rg.ret (hP _ _ ?_))
    clear hP P
    refine Ru.at (fun ρ' => ρ' q4 = .sc (.slice id 0 k (some k) 1) ∧ ρ' q13 = iv 0) ⟨by simp (disch := first | decide | omega) [hk.e, e4], rfl⟩ fun ρ3 hE => ?_
    obtain ⟨e4', e13⟩ := hE
    refine Ru.block (Ru.lp [q4] (fun j : Nat => k - j) (fun j ρ s' => s' = s ∧ j ≤ k ∧ ρ q13 = iv j ∧ ∀ x ∈ d.take j, 0 ≤ x)
      ⟨0, rfl, by omega, e13, fun x hx => by simp at hx⟩ fun j ρ s' hk hI => ?_)
    obtain ⟨hs', hj, e13, hall⟩ := hI
    subst s'
    refine Ru.seq (Ru.rs fun P hP => ?_)
    simp -implicitDefEqProofs (disch := first | decide | omega) [hk.e, e4', e13]
    refine Rg.ret (hP _ _ ?_)
    clear hP P
    refine Ru.cond rfl (fun h => Ru.skip ?_) fun h => Ru.exit ?_
    · simp at h
      have hjk : j < d.length := by omega
      have hdj := dat_rd (x := (j : Int)) hD hdl (by omega) (by omega)
      rw [Int.toNat_natCast] at hdj
      have hgj := List.getElem?_eq_getElem hjk
      have hmem := List.getElem_mem hjk
      have hde : dat d (j : Int) = d[j] := by unfold dat; rw [Int.toNat_natCast, hgj]; rfl
      rw [hde] at hdj
      generalize d[j] = x at hgj hmem hdj hde
      refine Ru.seq (Ru.block (Ru.rs fun P hP => ?_))
      simp -implicitDefEqProofs (disch := first | decide | omega) [hk.e, e4', e13, hdj]
      refine Rg.ret (hP _ _ ?_)
      clear hP P
      refine Ru.cond rfl (fun h => no _ _ _ rfl hf fun hh => ?_) fun hbf => Ru.skip ?_
      · obtain ⟨d', h1, h2⟩ := hh
        rw [hwk] at h1; cases h1
        have := hge.2 x hmem
        simp at h
        exact h2 (by rwa [show x = -1 by omega] at hmem)
      simp only [Then, Out]
      refine Ru.r1 fun P hP => ?_
      simp -implicitDefEqProofs (disch := first | decide | omega) [e13]
      refine Rg.ret (hP _ _ ⟨by repeat first | exact hk | refine Keep.up (by rfl) ?_, j + 1, by omega, rfl, by omega, rfl, fun y hy => ?_⟩)
      rw [List.take_add_one, hgj] at hy
      rcases List.mem_append.1 hy with hy | hy
      · exact hall y hy
      · simp at hy; subst hy
        simp at hbf; exact hbf
    · simp at h
      have : j = k := by omega
      subst this
      simp only [Then, Out, if_true]
      refine Ru.sreg (Rg.ret (Ru.ret (hQ _ _ (.two (a := .slice id 0 j (some j) 1) (b := .bool true) (by simp (disch := first | decide | omega) [hk.e, e4']) rfl ⟨hf, _, _, rfl, ?_⟩))))
      simp only [true_iff]
      refine ⟨d, hwk, fun hmem => ?_⟩
      have := hall (-1) (by rw [List.take_of_length_le (by omega)]; exact hmem)
      omega
  simp at h
  have hlt : i < p.rows.length := by omega
  have hgi := List.getElem?_eq_getElem hlt
  generalize p.rows[i] = g at hgi
  obtain ⟨rid, ro, hix, hgc, hrsid⟩ := elt (f := gateC) (z := 11) (fun _ => rfl) (hp.fr hf) hgi
  have hgN : rdN s rid ro 11 = some (gateC g) := rdN_get rfl hgc
  obtain ⟨g', hg1, hfm, hnx⟩ := hrows i hlt
  rw [hgi] at hg1; cases hg1
  have hst : ∀ K : St → R, sto (new s [bs 0, is 0, is 0, is 0, is 0, us 0, us 0, us 0, us 0, us 0, is 0]) 11 (V.sc (S.ptr s.next 0)) (.agg (gateC g)) K = K (wr (new s [bs 0, is 0, is 0, is 0, is 0, us 0, us 0, us 0, us 0, us 0, is 0]) s.next 0 (gateC g)) := fun K => sto_new K rfl rfl
  refine Ru.seq (Ru.block (Ru.rs fun P hP => ?_))
  simp -implicitDefEqProofs (disch := first | decide | omega) [hk.e, e1, e6, hbs 4 _ rfl, hix, hgN, hst]
  clear hst
  have k3 := fr_mk hf.wf [bs 0, is 0, is 0, is 0, is 0, us 0, us 0, us 0, us 0, us 0, is 0] (gateC g)
  have hrow : ∀ i, rd (wr (new s [bs 0, is 0, is 0, is 0, is 0, us 0, us 0, us 0, us 0, us 0, is 0]) s.next 0 (gateC g)) s.next i = (gateC g)[i]? := fun i => by rw [rd_mk (by simp), if_pos rfl]
  refine Rg.ret (hP _ _ ?_)
  clear hP P
  have hs3 : s.next < (wr (new s [bs 0, is 0, is 0, is 0, is 0, us 0, us 0, us 0, us 0, us 0, is 0]) s.next 0 (gateC g)).next := by rw [next_mk]; omega
  generalize wr (new s [bs 0, is 0, is 0, is 0, is 0, us 0, us 0, us 0, us 0, us 0, is 0]) s.next 0 (gateC g) = s3 at *
  have hrN : rdN s3 s.next 0 11 = some (gateC g) := rdN_get rfl fun i x hx => by rw [Nat.zero_add]; exact (hrow i).trans hx
  refine Ru.rs fun P hP => ?_
  simp -implicitDefEqProofs (disch := first | decide | omega) [hrN]
  refine Rg.call (Reads_ok k3.wf g) fun v t hv => ?_
  obtain ⟨k4, y, rfl, hy⟩ := hv
  refine Rg.ret (hP _ _ ?_)
  clear hP P
  have h4 := k3.trans k4
  have hfT := hf.trans h4
  have hbT : ∀ i y, (gC p)[i]? = some y → rd t st.next i = some y := fun i y hy => h4.rd (hbs i y hy)
  have hrT : ∀ i y, (gateC g)[i]? = some y → rd t s.next i = some y := fun i y hy => k4.rd ((hrow i).trans hy)
  have hoT := ho.fr h4
  have hDT := hD.fr h4
  refine Ru.rs fun P hP => Rg.ret (hP _ _ ?_)
  clear hP P
  refine Ru.seq (Ru.rs fun P hP => Rg.ret (hP _ _ ?_))
  clear hP P
  refine Ru.at (fun ρ' => Keep [q1, q4] ρ' ρ2 ∧ ρ' q6 = iv i ∧ ρ' q7 = .sc (.ptr s.next 0) ∧ ρ' q8 = .sc y ∧ ρ' q9 = iv 0 ∧ ρ' q10 = iv 0) ⟨by repeat first | exact hk | refine Keep.up (by rfl) ?_, by simp (disch := first | decide | omega) [e6], rfl, rfl, rfl, rfl⟩ fun ρ3 hE => ?_
  clear hk e6 ρ
  obtain ⟨hk, e6, e7, e8, e9, e10⟩ := hE
  have hlenL : ((readsL g).map fun k => ((k : Nat) : Int)).length = (readsL g).length := by simp
  have hl4 : (readsL g).length ≤ 4 := by unfold readsL; exact Nat.le_trans (List.length_filter_le ..) (by simp)
  have hrd : ∀ j, j < 4 → -1 ≤ g.w j ∧ g.w j < k ∧ (readsD g j = true → 0 ≤ g.w j) := fun j hj => hfm.2.2.2.2.2.2 j hj
  have hbadW : (∃ k, k < 4 ∧ badK d g k) → ¬ (∃ d, walkD p.rows (d0L k m) p.rows.length = some d ∧ (-1 : Int) ∉ d) := fun hbk hh => by
    obtain ⟨d', h1, _⟩ := hh
    have hw1 : walkD p.rows (d0L k m) (i + 1) = none := by
      show (walkD p.rows (d0L k m) i).bind _ = none
      rw [hwk]; exact stepD_bad hgi hbk
    rw [walk_none hw1 _ (by omega)] at h1
    cases h1
  refine Ru.block (Ru.lp [q1, q4, q6, q7, q8] (fun j : Nat => (readsL g).length - j) (fun j ρ s' => s' = t ∧ j ≤ (readsL g).length ∧ ρ q10 = iv j ∧ ρ q9 = iv (((readsL g).take j).foldl (fun m k => max m (dat d (g.w k))) 0) ∧ ∀ x, x ∈ (readsL g).take j → ¬ badK d g x)
    ⟨0, rfl, by omega, e10, e9, fun x hx => by simp at hx⟩ fun j ρ s' hk2 hI => ?_)
  clear e9 e10
  obtain ⟨hs', hj, e10, e9, hnb⟩ := hI
  subst s'
  refine Ru.seq (Ru.rs fun P hP => ?_)
  simp -implicitDefEqProofs (disch := first | decide | omega) [hk2.e, e8, e10, lnS_sat hy, hlenL]
  refine Rg.ret (hP _ _ ?_)
  clear hP P
  refine Ru.cond rfl (fun h => Ru.skip ?_) fun h => Ru.exit ?_
  · simp at h
    have hjl : j < (readsL g).length := by omega
    have hgj := List.getElem?_eq_getElem hjl
    have hmem := List.getElem_mem hjl
    generalize (readsL g)[j] = x at hgj hmem
    obtain ⟨hx4, hxr⟩ := mem_readsL.1 hmem
    have mw : rd t s.next (1 + x) = some (is (g.w x)) := hrT (1 + x) (is (g.w x)) (by
      rcases (show x = 0 ∨ x = 1 ∨ x = 2 ∨ x = 3 by omega) with rfl | rfl | rfl | rfl <;> rfl)
    obtain ⟨id1, o1, hx1, hc1, _⟩ := elt1 hy (show (List.map (fun k => ((k : Nat) : Int)) (readsL g))[j]? = some (x : Int) by rw [List.getElem?_map, hgj]; rfl)
    have hwx := hrd x hx4
    have hw0 := hwx.2.2 hxr
    have hdx := dat_rd hDT hdl hw0 hwx.2.1
    refine Ru.seq (Ru.block (Ru.rs fun P hP => ?_))
    simp -implicitDefEqProofs (disch := first | decide | omega) [hk2.e, hk.e, e4, e7, e8, e10, hx1, hc1, mw, hdx]
    refine Rg.ret (hP _ _ ?_)
    clear hP P
    refine Ru.seq (Ru.rs fun P hP => ?_)
    simp -implicitDefEqProofs +contextual (disch := first | decide | omega) [-Bool.not_or, -Bool.not_and, hk2.e, hk.e, e7, e8, e10, hx1, hc1, hrT 0 _ rfl]
    refine Rg.ret (hP _ _ ?_)
    clear hP P
    refine Ru.cond rfl (fun h' => no _ _ _ rfl hfT (hbadW ⟨x, hx4, ?_⟩)) fun h' => Ru.skip ?_
    · simp at h'
      exact ⟨hxr, h'.1, fun hh => by rcases h'.2 with h' | h' <;> omega⟩
    have hnx' : ¬ badK d g x := fun hh => by
      obtain ⟨_, h2, h3⟩ := hh
      simp at h'
      have := h' h2
      exact h3 ⟨this.1, by omega⟩
    simp only [Then, Out]
    refine Ru.r1 fun P hP => ?_
    simp -implicitDefEqProofs (disch := first | decide | omega) [e9, imax2]
    refine Rg.ret (hP _ _ ?_)
    clear hP P
    refine Ru.r1 fun P hP => ?_
    simp -implicitDefEqProofs (disch := first | decide | omega) [e10]
    refine Rg.ret (hP _ _ ⟨by repeat first | exact hk2 | refine Keep.up (by rfl) ?_, j + 1, by omega, rfl, by omega, rfl, ?_, fun z hz => ?_⟩)
    · simp -implicitDefEqProofs (disch := first | decide | omega) []
      rw [List.take_add_one, hgj, List.foldl_append]; rfl
    · rw [List.take_add_one, hgj] at hz
      rcases List.mem_append.1 hz with hz | hz
      · exact hnb z hz
      · simp at hz; subst hz; exact hnx'
  simp at h
  have hjl : j = (readsL g).length := by omega
  subst hjl
  rw [List.take_length] at hnb e9
  rw [most_list] at e9
  simp only [Then, Out, if_true]
  have hnb4 : ∀ x, x < 4 → ¬ badK d g x := fun x hx hh => hnb x (mem_readsL.2 ⟨hx, hh.1⟩) hh
  have hmle : mostK d g 4 ≤ i := mostK_le (walk_le (d0L_le k m) i d hwk) (by omega) g 4
  have hmge := mostK_nn d g 4
  have hwk1 : walkD p.rows (d0L k m) (i + 1) = some ((defsR p.rows i g).foldl (setR (mostK d g 4)) d) := by
    show (walkD p.rows (d0L k m) i).bind _ = _
    rw [hwk]; exact stepD_ok hgi hnb4
  have m0 : rd t s.next 0 = some (bs g.kind) := hrT 0 _ rfl
  have m8 : rd t s.next 8 = some (us (g.q 3)) := hrT 8 _ rfl
  have m3 : rd t s.next 3 = some (is (g.w 2)) := hrT 3 _ rfl
  have hids3 : id < t.next := by have := h4.next; omega
  have hst : ∀ (u : St) (v x : Int), Own u id k → 0 ≤ v → v < k → ∀ (K : St → R), sto u 1 (V.sc (S.ptr id v.toNat)) (.sc (is x)) K = K (wr u id v.toNat [is x]) := fun u v x ho h1 h2 K => sto_sc K ho (by omega)
  have hd1 : (d.length : Int) = k := by omega
  have fin : ∀ (Q' : X → Ev → St → Prop) (ρ' : Ev) (u : St) (d' : List Int), Fr st u → (∀ i y, (gC p)[i]? = some y → rd u st.next i = some y) → id < u.next → Keep [q1, q4] ρ' ρ2 → ρ' q6 = iv i → Own u id k → d' = (defsR p.rows i g).foldl (setR (mostK d g 4)) d → Sat u (.slice id 0 k (some k) 1) k 1 (d'.map is) →
      (∀ ρ' u, (Keep [q1, q4] ρ' ρ2 ∧ ∃ a', p.rows.length - a' < p.rows.length - i ∧ Fr st u ∧ (∀ i y, (gC p)[i]? = some y → rd u st.next i = some y) ∧ id < u.next ∧ a' ≤ p.rows.length ∧ ρ' q6 = iv a' ∧ Own u id k ∧ ∃ d, walkD p.rows (d0L k m) a' = some d ∧ d.length = k ∧ Sat u (.slice id 0 k (some k) 1) k 1 (d.map is)) → Q' .normal ρ' u) →
      Ru (cF F) (.reg [q6] fun c r s K => binK .add (r q6) I1 fun v0 => K [v0] s) ρ' u Q' := fun Q' ρ' u d' hf hbs hids hk e6 ho hd' hD hQ' => by
    refine Ru.r1 fun P hP => ?_
    simp -implicitDefEqProofs (disch := first | decide | omega) [e6]
    exact Rg.ret (hP _ _ (hQ' _ _ ⟨.up (by rfl) hk, i + 1, by omega, hf, hbs, hids, by omega, rfl, ho, d', by rw [hd']; exact hwk1, by rw [hd', foldR_len]; exact hdl, hD⟩))
  refine Ru.seq (Ru.imp (Q := fun x ρ' u => x = .normal ∧ Keep [q1, q4, q6, q7] ρ' ρ3 ∧ ρ' q9 = iv (mostK d g 4) ∧ Kp (some id) t u ∧ u.next = t.next ∧ Own u id k ∧ ∃ d', Sat u (.slice id 0 k (some k) 1) k 1 (d'.map is) ∧ (g.kind ≠ 3 → d' = (defsR p.rows i g).foldl (setR (mostK d g 4)) d) ∧ (g.kind = 3 → d' = d)) ?_ fun x ρ' u hx => ?_)
  · have hkk : Keep [q1, q4, q6, q7] ρ ρ3 := .via (by rfl) hk2 (.refl _ _)
    by_cases hA : g.kind = 1 ∧ g.q 3 ≠ 0
    · obtain ⟨hk1, hq3⟩ := hA
      have hk3 : ¬ g.kind = 3 := by omega
      have hw2 := hrd 2 (by omega)
      have hw20 := hw2.2.2 (by simp [readsD, hk1, hq3])
      have hd2 := dat_rd hDT hdl hw20 hw2.2.1
      have hdefs : defsR p.rows i g = [g.w 2] := by unfold defsR; rw [if_neg hk3, if_pos hq3]
      refine Ru.rs fun P hP => ?_
      simp -implicitDefEqProofs (disch := first | decide | omega) [hkk.e, hk.e, e4, e7, m0, m8, m3, hd2]
      refine Rg.ret (hP _ _ ?_)
      clear hP P
      refine Ru.cond rfl (fun h => Ru.r1 fun P hP => ?_) fun h => Ru.skip ?_
      · simp at h
        simp -implicitDefEqProofs (disch := first | decide | omega) [hkk.e, hk.e, e4, e7, e9, m3, hst _ _ _ hoT hw20 hw2.2.1]
        have hD2 := hDT.set hoT (by omega) (show (g.w 2).toNat < k by omega) (is (mostK d g 4 + 1))
        rw [Nat.zero_add, ← List.map_set] at hD2
        refine Rg.ret (hP _ _ ⟨rfl, by repeat first | exact hkk | refine Keep.up (by rfl) ?_, by simp (disch := first | decide | omega) [e9], kp_wr k4.wf hids3, wr_next, hoT.wr, _, hD2, fun _ => ?_, fun h => absurd h hk3⟩)
        rw [hdefs, List.foldl_cons, List.foldl_nil, setR_t h]
      · simp at h
        refine ⟨rfl, by repeat first | exact hkk | refine Keep.up (by rfl) ?_, by simp (disch := first | decide | omega) [e9], (Fr.refl k4.wf).kp _, rfl, hoT, d, hDT, fun _ => ?_, fun h => absurd h hk3⟩
        rw [hdefs, List.foldl_cons, List.foldl_nil, setR_f (by omega)]
    · refine Ru.rs fun P hP => ?_
      have hq0 : ∀ P : List V → St → Prop, P [bl false] t → P [bl (eqN g.kind 1 && !eqN (g.q 3) 0)] t := fun P h => by
        have : (eqN g.kind 1 && !eqN (g.q 3) 0) = false := by
          rw [← Bool.not_eq_true]; simp; intro h1
          exact Classical.byContradiction fun h2 => hA ⟨h1, h2⟩
        rw [this]; exact h
      by_cases hk1 : g.kind = 1
      · have hq3 : g.q 3 = 0 := Classical.byContradiction fun h2 => hA ⟨hk1, h2⟩
        simp -implicitDefEqProofs (disch := first | decide | omega) [hkk.e, hk.e, e4, e7, m0, m8]
        refine Rg.ret (hP _ _ ?_)
        clear hP P
        refine Ru.cond rfl (fun h => by cases h) fun h => Ru.skip ?_
        refine ⟨rfl, by repeat first | exact hkk | refine Keep.up (by rfl) ?_, by simp (disch := first | decide | omega) [e9], (Fr.refl k4.wf).kp _, rfl, hoT, d, hDT, fun _ => ?_, fun _ => rfl⟩
        have hdefs : defsR p.rows i g = [] := by unfold defsR; rw [if_neg (by omega), if_neg (by simp [hq3])]
        rw [hdefs]; rfl
      · simp -implicitDefEqProofs (disch := first | decide | omega) [hkk.e, hk.e, e4, e7, m0, m8]
        refine Rg.ret (hP _ _ ?_)
        clear hP P
        refine Ru.cond rfl (fun h => by cases h) fun h => Ru.skip ?_
        refine ⟨rfl, by repeat first | exact hkk | refine Keep.up (by rfl) ?_, by simp (disch := first | decide | omega) [e9], (Fr.refl k4.wf).kp _, rfl, hoT, d, hDT, fun hk3 => ?_, fun _ => rfl⟩
        have hq3 : g.q 3 = 0 := (hfm.2.2.2.2.2.1.resolve_left hk1) 3 (by omega)
        have hdefs : defsR p.rows i g = [] := by unfold defsR; rw [if_neg hk3, if_neg (by simp [hq3])]
        rw [hdefs]; rfl
  obtain ⟨rfl, hk5, e9', kp, hun, hoU, d', hDU, hd3, hd3'⟩ := hx
  have hfU := kp.fr hfT (fun i h => by cases h; omega) hw
  have hrU : ∀ i y, (gateC g)[i]? = some y → rd u s.next i = some y := fun i y hy => kp.rd (by simp; omega) (hrT i y hy)
  have hbU : ∀ i y, (gC p)[i]? = some y → rd u st.next i = some y := fun i y hy => kp.rd (by simp; omega) (hbT i y hy)
  simp only [Then]
  refine Ru.rs fun P hP => ?_
  simp -implicitDefEqProofs (disch := first | decide | omega) [hk5.e, e7, hrU 0 _ rfl]
  refine Rg.ret (hP _ _ ?_)
  clear hP P
  refine Ru.cond rfl (fun h => Ru.rs fun P hP => Rg.ret (hP _ _ ?_)) fun h => Ru.skip ?_
  rotate_left
  · simp at h
    simp only [Then, Out]
    exact fin _ _ _ _ hfU hbU (by omega) (.up (by rfl) (.via (by rfl) hk5 hk)) (by simp (disch := first | decide | omega) [hk5.e, e6]) hoU (hd3 h) hDU fun _ _ h => h
  simp at h
  have hd4 := hd3' h
  subst hd4
  obtain ⟨g2, hgj, hnw⟩ := hnx h
  have hdefs : defsR p.rows i g = [g2.w 0, g2.w 1, g2.w 2, g2.w 3] := by unfold defsR; rw [if_pos h, hgj]
  clear hP P
  have hidu : id < u.next := by omega
  refine Ru.at (fun ρ'' => Keep [q1, q4] ρ'' ρ2 ∧ ρ'' q6 = iv i ∧ ρ'' q9 = iv (mostK d' g 4) ∧ ρ'' q12 = iv 0) ⟨.up (by rfl) (.up (by rfl) (.via (by rfl) hk5 hk)), by simp (disch := first | decide | omega) [hk5.e, e6], by simp (disch := first | decide | omega) [e9'], rfl⟩ fun ρ5 hE => ?_
  obtain ⟨hk6, e6', e9'', e12⟩ := hE
  refine Ru.block (Ru.lp [q1, q4, q6, q9] (fun j : Nat => 4 - j) (fun j ρ u' => j ≤ 4 ∧ ρ q12 = iv j ∧ Kp (some id) u u' ∧ u'.next = u.next ∧ Own u' id k ∧ Sat u' (.slice id 0 k (some k) 1) k 1 (((([g2.w 0, g2.w 1, g2.w 2, g2.w 3] : List Int).take j).foldl (setR (mostK d' g 4)) d').map is))
    ⟨0, by omega, e12, (Fr.refl hfU.wf).kp _, rfl, hoU, hDU⟩ fun j ρ'' u' hk7 hI => ?_)
  clear e12 hoU hDU hoT hDT ho hD
  obtain ⟨hj, e12, kp2, hn2, ho, hD⟩ := hI
  have hf2 := kp2.fr hfU (fun i h => by cases h; omega) hw
  have hb2 : ∀ i y, (gC p)[i]? = some y → rd u' st.next i = some y := fun i y hy => kp2.rd (by simp; omega) (hbU i y hy)
  refine Ru.seq (Ru.rs fun P hP => ?_)
  simp -implicitDefEqProofs (disch := first | decide | omega) [e12]
  refine Rg.ret (hP _ _ ?_)
  clear hP P
  refine Ru.cond rfl (fun h => Ru.skip ?_) fun h => Ru.exit ?_
  rotate_left
  · simp at h
    have : j = 4 := by omega
    subst this
    simp only [Then, Out, if_true]
    exact fin _ _ _ _ hf2 hb2 (by omega) (.up (by rfl) (.via (by rfl) hk7 hk6)) (by simp (disch := first | decide | omega) [hk7.e, e6']) ho (by rw [hdefs]; rfl) hD fun _ _ h => h
  simp at h
  have hj4 : j < 4 := by omega
  have hv := hnw j hj4
  obtain ⟨id2, o2, hix2, hc2, _⟩ := elt (f := gateC) (z := 11) (fun _ => rfl) (hp.fr hf2) hgj
  have hix2' : ∀ K, ixs 11 (V.sc p.sl) (iv ((i : Int) + 1)) K = K (.sc (.ptr id2 o2)) := fun K => hix2 K
  have mw : rd u' id2 (o2 + (1 + j)) = some (is (g2.w j)) := hc2 (1 + j) (is (g2.w j)) (by
    rcases (show j = 0 ∨ j = 1 ∨ j = 2 ∨ j = 3 by omega) with rfl | rfl | rfl | rfl <;> rfl)
  rw [← Nat.add_assoc] at mw
  have hgv : [g2.w 0, g2.w 1, g2.w 2, g2.w 3][j]? = some (g2.w j) := by
    rcases (show j = 0 ∨ j = 1 ∨ j = 2 ∨ j = 3 by omega) with rfl | rfl | rfl | rfl <;> rfl
  generalize hvs : [g2.w 0, g2.w 1, g2.w 2, g2.w 3] = vs at *
  have hdl' : ((vs.take j).foldl (setR (mostK d' g 4)) d').length = k := by rw [foldR_len]; exact hdl
  have hdj := dat_rd hD hdl' hv.1 hv.2
  have hstep : (vs.take (j + 1)).foldl (setR (mostK d' g 4)) d' = setR (mostK d' g 4) ((vs.take j).foldl (setR (mostK d' g 4)) d') (g2.w j) := by
    rw [List.take_add_one, hgv, List.foldl_append]; rfl
  generalize (vs.take j).foldl (setR (mostK d' g 4)) d' = dj at *
  refine Ru.seq (Ru.block (Ru.rs fun P hP => ?_))
  simp -implicitDefEqProofs (disch := first | decide | omega) [hk7.e, hk6.e, e1, e4, e6', e12, hb2 4 _ rfl, hix2', mw, hdj]
  refine Rg.ret (hP _ _ ?_)
  clear hP P
  refine Ru.cond rfl (fun h => Ru.r1 fun P hP => ?_) fun h => Ru.skip ?_
  · simp at h
    simp -implicitDefEqProofs (disch := first | decide | omega) [hk7.e, hk6.e, e1, e4, e6', e9'', e12, hb2 4 _ rfl, hix2', mw, hst _ _ _ ho hv.1 hv.2]
    refine Rg.ret (hP _ _ ?_)
    clear hP P
    simp only [Then, Out]
    refine Ru.r1 fun P hP => ?_
    simp -implicitDefEqProofs (disch := first | decide | omega) [e12]
    have hD2 := hD.set ho (by omega) (show (g2.w j).toNat < k by omega) (is (mostK d' g 4 + 1))
    rw [Nat.zero_add, ← List.map_set] at hD2
    refine Rg.ret (hP _ _ ⟨by repeat first | exact hk7 | refine Keep.up (by rfl) ?_, j + 1, by omega, by omega, rfl, kp2.trans (kp_wr kp2.wf (by omega)), by rw [wr_next]; exact hn2, ho.wr, ?_⟩)
    rw [hstep, setR_t h]; exact hD2
  · simp at h
    simp only [Then, Out]
    refine Ru.r1 fun P hP => ?_
    simp -implicitDefEqProofs (disch := first | decide | omega) [e12]
    refine Rg.ret (hP _ _ ⟨by repeat first | exact hk7 | refine Keep.up (by rfl) ?_, j + 1, by omega, by omega, rfl, kp2, hn2, ho, ?_⟩)
    rw [hstep, setR_f (by omega)]; exact hD
end Go.Proofs.YticfndhcbjcklaaDoor.Ev
namespace Go.Proofs.YticfndhcbjcklaaDoor.Ev
set_option linter.unusedSimpArgs false
set_option linter.unusedVariables false
variable {st s t : St} {n i id off : Nat}
theorem refValid_ok (hw : WfS st) (p : GatesD) (hp : RepRows st p.sl p.rows) (hlen : p.rows.length < 9223372036854775808) :
    Ca (cF F) 44 [.agg (gC p)] st (fun v s => Fr st s ∧ ∃ b, v = bl b ∧ (b = true ↔ ValidG p)) := by
  refine Ca.of (hf := cf44) rfl rfl [q0] [.tmp q2] rfl rfl rfl fun Q hQ => ?_
  have f1 : Fr st (new st (gC p)) := (Fr.refl hw).new _
  have hb : ∀ {t}, Fr (new st (gC p)) t → rdN t st.next 0 5 = some (gC p) := fun k => rdN_get rfl fun i x hx => by rw [Nat.zero_add]; exact k.rd (by rw [rd_new, if_pos rfl]; exact hx)
  refine Ru.rs fun P hP => ?_
  simp -implicitDefEqProofs (disch := first | decide | omega)
  refine Rg.ret (hP _ _ ?_)
  clear hP P
  generalize new st (gC p) = s1 at *
  refine Ru.seq (Ru.rs fun P hP => ?_)
  simp -implicitDefEqProofs (disch := first | decide | omega) [hb (Fr.refl f1.wf)]
  refine Rg.call (limits_ok f1.wf p (hp.fr f1) hlen) fun v s h => ?_
  obtain ⟨k, b, rfl, hb1⟩ := h
  simp -implicitDefEqProofs (disch := first | decide | omega)
  refine Rg.ret (hP _ _ ?_)
  clear hP P
  refine Ru.cond rfl (fun h => ?_) fun h => Ru.skip ?_
  · simp at h
    refine Ru.sreg (Rg.ret (Ru.ret (hQ _ _ (.one rfl ⟨f1.trans k, false, rfl, ?_⟩))))
    constructor
    · intro h; cases h
    · intro hh; rw [hb1.2 ⟨hh.base, hh.rows⟩] at h; cases h
  simp at h
  have hL := hb1.1 h
  refine Ru.rs fun P hP => ?_
  simp -implicitDefEqProofs (disch := first | decide | omega) [hb k]
  refine Rg.call (order_ok k.wf p (hp.fr (f1.trans k)) hlen hL) fun v t h => ?_
  obtain ⟨k2, y, b, rfl, hb2⟩ := h
  simp -implicitDefEqProofs (disch := first | decide | omega)
  refine Rg.ret (hP _ _ ?_)
  refine Ru.sreg (Rg.ret (Ru.ret (hQ _ _ (.one rfl ⟨(f1.trans k).trans k2, b, rfl, ?_⟩))))
  rw [hb2]
  exact ⟨fun h => ⟨hL.base, hL.rows, h⟩, fun h => h.walk⟩
/-- all programs are valid and have one field -/
def AllV (l : List GatesD) : Prop := ∀ (i : Nat) (g : GatesD), l[i]? = some g → ValidG g ∧ ∃ g0, l[0]? = some g0 ∧ g.field = g0.field
theorem gvalid_ok (hg : Glo st) {x : S} {l : List GatesD} (hl : RepGs st x l) (hlen : l.length < 9223372036854775808) (hr : ∀ g ∈ l, g.rows.length < 9223372036854775808) :
    Ca (cF F) 22 [.sc x] st (fun v s => Fr st s ∧ ∃ b, v = bl b ∧ (b = true ↔ AllV l)) := by
  refine Ca.of (hf := cf22) rfl rfl [q0] [.tmp q2] rfl rfl rfl fun Q hQ => ?_
  have hw := hg.wf
  have no : ∀ (Q' : X → Ev → St → Prop) (ρ : Ev) (t : St), Q' .ret = Q .ret → Fr st t → ¬ AllV l → Ru (cF F) (.seq (.reg [q2] fun c r s K => K [ff] s) .ret) ρ t Q' := fun Q' ρ t he k hn =>
    Ru.sreg (Rg.ret (Ru.ret (he ▸ hQ _ _ (.one rfl ⟨k, false, rfl, by simp [hn]⟩))))
  refine Ru.rs fun P hP => Rg.ret (hP _ _ ?_)
  clear hP P
  refine Ru.seq (Ru.rs fun P hP => ?_)
  simp -implicitDefEqProofs (disch := first | decide | omega) [lnS_sat hl.sat]
  refine Rg.ret (hP _ _ ?_)
  clear hP P
  refine Ru.at (fun ρ => ρ q0 = .sc x ∧ ρ q5 = .sc x ∧ ρ q6 = iv l.length ∧ ρ q7 = iv 0) ⟨rfl, rfl, rfl, rfl⟩ fun ρ1 hE => ?_
  obtain ⟨e0, e5, e6, e7⟩ := hE
  refine Ru.block (Ru.lp [q0, q5, q6] (fun j : Nat => l.length - j) (fun i ρ s => Fr st s ∧ i ≤ l.length ∧ ρ q7 = iv i ∧ ∀ (j : Nat) (g : GatesD), j < i → l[j]? = some g → ValidG g ∧ ∃ g0, l[0]? = some g0 ∧ g.field = g0.field)
    ⟨0, Fr.refl hw, by omega, e7, fun j g hj => by omega⟩ fun i ρ s hk hI => ?_)
  clear e7
  obtain ⟨hf, hi, e7, hall⟩ := hI
  refine Ru.rs fun P hP => ?_
  simp -implicitDefEqProofs (disch := first | decide | omega) [hk.e, e6, e7]
  refine Rg.ret (hP _ _ ?_)
  clear hP P
  refine Ru.seq (Ru.cond rfl (fun h => Ru.skip ?_) fun h => Ru.exit ?_)
  rotate_left
  · simp at h
    simp only [Then, Out, if_true]
    refine Ru.sreg (Rg.ret (Ru.ret (hQ _ _ (.one rfl ⟨hf, true, rfl, ?_⟩))))
    simp only [true_iff]
    intro j g hj
    have := (List.getElem?_eq_some_iff.1 hj).1
    exact hall j g (by omega) hj
  simp at h
  have hlt : i < l.length := by omega
  have hgi := List.getElem?_eq_getElem hlt
  have hmem := List.getElem_mem hlt
  generalize l[i] = g at hgi hmem
  have hg0 := List.getElem?_eq_getElem (show 0 < l.length by omega)
  generalize l[0] = g0 at hg0
  obtain ⟨rid, ro, hix, hgc, _⟩ := elt (f := gC) (z := 5) (fun _ => rfl) (hl.fr hf).sat hgi
  have hgN : rdN s rid ro 5 = some (gC g) := rdN_get rfl hgc
  have hst : ∀ K : St → R, sto (new s [is 0, is 0, is 0, is 0, zn]) 5 (V.sc (S.ptr s.next 0)) (.agg (gC g)) K = K (wr (new s [is 0, is 0, is 0, is 0, zn]) s.next 0 (gC g)) := fun K => sto_new K rfl rfl
  refine Ru.seq (Ru.block (Ru.rs fun P hP => ?_))
  simp -implicitDefEqProofs (disch := first | decide | omega) [hk.e, e5, e7, hix, hgN, hst]
  clear hst
  have k3 := fr_mk hf.wf [is 0, is 0, is 0, is 0, zn] (gC g)
  have hrow : ∀ i, rd (wr (new s [is 0, is 0, is 0, is 0, zn]) s.next 0 (gC g)) s.next i = (gC g)[i]? := fun i => by rw [rd_mk (by simp), if_pos rfl]
  refine Rg.ret (hP _ _ ?_)
  clear hP P
  generalize wr (new s [is 0, is 0, is 0, is 0, zn]) s.next 0 (gC g) = s3 at *
  have hrN : rdN s3 s.next 0 5 = some (gC g) := rdN_get rfl fun i x hx => by rw [Nat.zero_add]; exact (hrow i).trans hx
  have hf3 := hf.trans k3
  refine Ru.seq (Ru.d1 fun P hP => ?_)
  refine Rg.imp (P := fun l' t => ∃ b, l' = [bl b] ∧ Fr s3 t ∧ (b = false ↔ ValidG g ∧ g.field = g0.field)) (Rg.hide fun P hP => ?_) fun l' t h => hP _ _ ?_
  · simp -implicitDefEqProofs (disch := first | decide | omega) [hk.e, hrN]
    refine Rg.dc (fun v => ∃ b, v = bl b ∧ (b = true ↔ ValidG g)) hf3.wf (by decide) (by decide) ((valid_ok ((hg.fr hf3).low _) g (((hl.fr hf3).rows g hmem).low _) (hr g hmem)).imp fun v s h => h) fun v t k hv => ?_
    obtain ⟨b, rfl, hb⟩ := hv
    cases b with
    | false =>
      simp -implicitDefEqProofs (disch := first | decide | omega)
      refine Rg.ret (hP _ _ ⟨true, rfl, k, ?_⟩)
      constructor
      · intro h; cases h
      · intro h; exact absurd (hb.2 h.1) (by simp)
    | true =>
    obtain ⟨id0, o0, hix0, hgc0, _⟩ := elt (f := gC) (z := 5) (fun _ => rfl) (hl.fr (hf3.trans k)).sat hg0
    have hix0' : ∀ K, ixs 5 (V.sc x) (iv 0) K = K (.sc (.ptr id0 o0)) := fun K => hix0 K
    have m0 : rd t s.next 0 = some (is g.field) := k.rd (hrow 0)
    have n0' : rd t id0 o0 = some (is g0.field) := hgc0 0 _ rfl
    simp -implicitDefEqProofs (disch := first | decide | omega) [hk.e, e0, m0, hix0', n0']
    refine Rg.ret (hP _ _ ⟨_, rfl, k, ?_⟩)
    simp [hb.1 rfl]
  obtain ⟨b, rfl, k, hb⟩ := h
  clear hP P
  refine Ru.cond rfl (fun h => no _ _ _ rfl (hf3.trans k) fun hh => ?_) fun hbf => Ru.skip ?_
  · obtain ⟨h1, g0', h2, h3⟩ := hh i g hgi
    rw [hg0] at h2; cases h2
    rw [hb.2 ⟨h1, h3⟩] at h; cases h
  simp only [Then, Out]
  refine Ru.r1 fun P hP => ?_
  simp -implicitDefEqProofs (disch := first | decide | omega) [e7]
  refine Rg.ret (hP _ _ ⟨by repeat first | exact hk | refine Keep.up (by rfl) ?_, i + 1, by omega, hf3.trans k, by omega, rfl, fun j g' hj hj' => ?_⟩)
  rcases (show j < i ∨ j = i by omega) with hij | rfl
  · exact hall j g' hij hj'
  · rw [hgi] at hj'; cases hj'
    exact ⟨(hb.1 hbf).1, g0, hg0, (hb.1 hbf).2⟩
end Go.Proofs.YticfndhcbjcklaaDoor.Ev
namespace Go.Proofs.YticfndhcbjcklaaDoor.Ev
set_option linter.unusedSimpArgs false
set_option linter.unusedVariables false
variable {st s t : St} {n i id off : Nat}
theorem fits_ok (hg : Glo st) {x : S} {l : List GatesD} (hl : RepGs st x l) (hlen : l.length < 9223372036854775808) (hr : ∀ g ∈ l, g.rows.length < 9223372036854775808) :
    Ca (cF F) 26 [.sc x] st (fun v s => Fr st s ∧ ∃ b : Bool, v = iv (if b = true then 0 else 1) ∧ (b = true ↔ AllV l)) := by
  refine Ca.of (hf := cf26) rfl rfl [q0] [.tmp q2] rfl rfl rfl fun Q hQ => ?_
  have hw := hg.wf
  have no : ∀ (Q' : X → Ev → St → Prop) (ρ : Ev) (t : St), Q' .ret = Q .ret → Fr st t → ¬ AllV l → Ru (cF F) (.seq (.reg [q2] fun c r s K => K [I1] s) .ret) ρ t Q' := fun Q' ρ t he k hn =>
    Ru.sreg (Rg.ret (Ru.ret (he ▸ hQ _ _ (.one rfl ⟨k, false, rfl, by simp [hn]⟩))))
  refine Ru.rs fun P hP => Rg.ret (hP _ _ ?_)
  clear hP P
  refine Ru.seq (Ru.rs fun P hP => Rg.ret (hP _ _ ?_))
  clear hP P
  refine Ru.at (fun ρ => ρ q0 = .sc x ∧ ρ q3 = iv 0) ⟨rfl, rfl⟩ fun ρ1 hE => ?_
  obtain ⟨e0, e3⟩ := hE
  refine Ru.block (Ru.lp [q0] (fun j : Nat => l.length - j) (fun i ρ s => Fr st s ∧ i ≤ l.length ∧ ρ q3 = iv i ∧ ∀ (j : Nat) (g : GatesD), j < i → l[j]? = some g → ValidG g ∧ ∃ g0, l[0]? = some g0 ∧ g.field = g0.field)
    ⟨0, Fr.refl hw, by omega, e3, fun j g hj => by omega⟩ fun i ρ s hk hI => ?_)
  clear e3
  obtain ⟨hf, hi, e3, hall⟩ := hI
  refine Ru.seq (Ru.rs fun P hP => ?_)
  simp -implicitDefEqProofs (disch := first | decide | omega) [hk.e, e0, e3, lnS_sat (hl.fr hf).sat]
  refine Rg.ret (hP _ _ ?_)
  clear hP P
  refine Ru.cond rfl (fun h => Ru.skip ?_) fun h => Ru.exit ?_
  rotate_left
  · simp at h
    simp only [Then, Out, if_true]
    refine Ru.sreg (Rg.ret (Ru.ret (hQ _ _ (.one rfl ⟨hf, true, rfl, ?_⟩))))
    simp only [true_iff]
    intro j g hj
    have := (List.getElem?_eq_some_iff.1 hj).1
    exact hall j g (by omega) hj
  simp at h
  have hlt : i < l.length := by omega
  have hgi := List.getElem?_eq_getElem hlt
  have hmem := List.getElem_mem hlt
  generalize l[i] = g at hgi hmem
  have hg0 := List.getElem?_eq_getElem (show 0 < l.length by omega)
  generalize l[0] = g0 at hg0
  obtain ⟨rid, ro, hix, hgc, hrs⟩ := elt (f := gC) (z := 5) (fun _ => rfl) (hl.fr hf).sat hgi
  obtain ⟨id0, o0, hix0, hgc0, _⟩ := elt (f := gC) (z := 5) (fun _ => rfl) (hl.fr hf).sat hg0
  have hix0' : ∀ K, ixs 5 (V.sc x) (iv 0) K = K (.sc (.ptr id0 o0)) := fun K => hix0 K
  have hgN : rdN s rid ro 5 = some (gC g) := rdN_get rfl hgc
  have m0 : rd s rid ro = some (is g.field) := hgc 0 _ rfl
  have n0' : rd s id0 o0 = some (is g0.field) := hgc0 0 _ rfl
  have hlt0 : id0 < s.next := Fr.lt hf.wf n0'
  have hltr : rid < s.next := Fr.lt hf.wf m0
  refine Ru.seq (Ru.block (Ru.ds fun P hP => ?_))
  refine Rg.imp (P := fun l' t => ∃ b, l' = [bl b] ∧ Fr s t ∧ (b = false ↔ ValidG g ∧ g.field = g0.field)) (Rg.hide fun P hP => ?_) fun l' t h => hP _ _ ?_
  · simp -implicitDefEqProofs (disch := first | decide | omega) [hk.e, e0, e3, hix, hgN]
    refine Rg.dc (fun v => ∃ b, v = bl b ∧ (b = true ↔ ValidG g)) hf.wf (by decide) (by decide) ((refValid_ok (wf_setLow (h := hf.wf)) g (((hl.fr hf).rows g hmem).low _) (hr g hmem)).imp fun v s h => h) fun v t k hv => ?_
    obtain ⟨b, rfl, hb⟩ := hv
    cases b with
    | false =>
      simp -implicitDefEqProofs (disch := first | decide | omega)
      refine Rg.ret (hP _ _ ⟨true, rfl, k, ?_⟩)
      constructor
      · intro h; cases h
      · intro h; exact absurd (hb.2 h.1) (by simp)
    | true =>
    simp -implicitDefEqProofs (disch := first | decide | omega) [dL_low, hk.e, e0, e3, k.rd m0, hix, hix0', k.rd n0']
    refine Rg.ret (hP _ _ ⟨_, rfl, k, ?_⟩)
    simp [hb.1 rfl]
  obtain ⟨b, rfl, k, hb⟩ := h
  clear hP P
  have hf3 := hf.trans k
  refine Ru.cond rfl (fun h => no _ _ _ rfl hf3 fun hh => ?_) fun hbf => Ru.skip ?_
  · obtain ⟨h1, g0', h2, h3⟩ := hh i g hgi
    rw [hg0] at h2; cases h2
    rw [hb.2 ⟨h1, h3⟩] at h; cases h
  simp only [Then, Out]
  refine Ru.r1 fun P hP => ?_
  simp -implicitDefEqProofs (disch := first | decide | omega) [e3]
  refine Rg.ret (hP _ _ ⟨by repeat first | exact hk | refine Keep.up (by rfl) ?_, i + 1, by omega, hf3, by omega, rfl, fun j g' hj hj' => ?_⟩)
  rcases (show j < i ∨ j = i by omega) with hij | rfl
  · exact hall j g' hij hj'
  · rw [hgi] at hj'; cases hj'
    exact ⟨(hb.1 hbf).1, g0, hg0, (hb.1 hbf).2⟩
/-! numbers below P -/
def Below (P : Nat) (l : List Nat) : Prop := ∀ x ∈ l, x < P
theorem is_ok (hg : Glo st) {x : Int} (h0 : 0 ≤ x) (h4 : x < 4) {y : S} {l : List Nat} (hl : RepN st y l) (hlen : l.length < 9223372036854775808) :
    Ca (cF F) 43 [iv x, .sc y] st (fun v s => Fr st s ∧ ∃ b, v = bl b ∧ (b = true ↔ Below (pC x.toNat) l)) := by
  refine Ca.of (hf := cf43) rfl rfl [q0, q1] [.tmp q4] rfl rfl rfl fun Q hQ => ?_
  have hw := hg.wf
  have no : ∀ (Q' : X → Ev → St → Prop) (ρ : Ev) (t : St), Q' .ret = Q .ret → Fr st t → ¬ Below (pC x.toNat) l → Ru (cF F) (.seq (.reg [q4] fun c r s K => K [ff] s) .ret) ρ t Q' := fun Q' ρ t he k hn =>
    Ru.sreg (Rg.ret (Ru.ret (he ▸ hQ _ _ (.one rfl ⟨k, false, rfl, by simp [hn]⟩))))
  refine Ru.rs fun P hP => Rg.ret (hP _ _ ?_)
  clear hP P
  refine Ru.seq (Ru.rs fun P hP => ?_)
  simp -implicitDefEqProofs (disch := first | decide | omega) [lnS_sat hl]
  refine Rg.ret (hP _ _ ?_)
  clear hP P
  refine Ru.at (fun ρ => ρ q0 = iv x ∧ ρ q7 = .sc y ∧ ρ q8 = iv l.length ∧ ρ q9 = iv 0) ⟨rfl, rfl, rfl, rfl⟩ fun ρ1 hE => ?_
  obtain ⟨e0, e7, e8, e9⟩ := hE
  refine Ru.block (Ru.lp [q0, q7, q8] (fun j : Nat => l.length - j) (fun i ρ s => Fr st s ∧ i ≤ l.length ∧ ρ q9 = iv i ∧ ∀ z ∈ l.take i, z < pC x.toNat)
    ⟨0, Fr.refl hw, by omega, e9, fun z hz => by simp at hz⟩ fun i ρ s hk hI => ?_)
  clear e9
  obtain ⟨hf, hi, e9, hall⟩ := hI
  refine Ru.rs fun P hP => ?_
  simp -implicitDefEqProofs (disch := first | decide | omega) [hk.e, e8, e9]
  refine Rg.ret (hP _ _ ?_)
  clear hP P
  refine Ru.seq (Ru.cond rfl (fun h => Ru.skip ?_) fun h => Ru.exit ?_)
  rotate_left
  · simp at h
    have : i = l.length := by omega
    subst this
    rw [List.take_length] at hall
    simp only [Then, Out, if_true]
    refine Ru.rs fun P hP => ?_
    simp -implicitDefEqProofs (disch := first | decide | omega) [hk.e, e0]
    refine Rg.call (valid46 _ _) fun v s' h => ?_
    obtain ⟨hs, b, rfl, hb⟩ := h
    subst s'
    refine Rg.ret (hP _ _ (Ru.ret (hQ _ _ (.one rfl ⟨hf, b, rfl, ?_⟩))))
    rw [hb.2 ⟨h0, h4⟩]
    simp only [true_iff]; exact hall
  simp at h
  have hlt : i < l.length := by omega
  have hgi := List.getElem?_eq_getElem hlt
  have hmem := List.getElem_mem hlt
  generalize l[i] = z at hgi hmem
  obtain ⟨id1, o1, hx1, hc1, _⟩ := elt1 (hl.fr hf) hgi
  refine Ru.seq (Ru.block (Ru.rs fun P hP => ?_))
  simp -implicitDefEqProofs (disch := first | decide | omega) [hk.e, e7, e9, hx1, hc1]
  refine Rg.ret (hP _ _ ?_)
  clear hP P
  refine Ru.rs fun P hP => ?_
  simp -implicitDefEqProofs (disch := first | decide | omega) [hk.e, e0]
  refine Rg.call (P_ok (hg.fr hf) h0 h4) fun v t hv => ?_
  obtain ⟨k, rfl⟩ := hv
  simp -implicitDefEqProofs (disch := first | decide | omega)
  refine Rg.ret (hP _ _ ?_)
  clear hP P
  refine Ru.cond rfl (fun h => no _ _ _ rfl (hf.trans k) fun hh => ?_) fun hbf => Ru.skip ?_
  · simp at h
    have := hh z hmem; omega
  simp at hbf
  simp only [Then, Out]
  refine Ru.r1 fun P hP => ?_
  simp -implicitDefEqProofs (disch := first | decide | omega) [e9]
  refine Rg.ret (hP _ _ ⟨by repeat first | exact hk | refine Keep.up (by rfl) ?_, i + 1, by omega, hf.trans k, by omega, rfl, fun w hw => ?_⟩)
  rw [List.take_add_one, hgi] at hw
  rcases List.mem_append.1 hw with hw | hw
  · exact hall w hw
  · simp at hw; subst hw; exact hbf
theorem refIs_ok (hw : WfS st) {x : Int} (h0 : 0 ≤ x) (h4 : x < 4) {y : S} {l : List Nat} (hl : RepN st y l) (hlen : l.length < 9223372036854775808) :
    Ca (cF F) 45 [iv x, .sc y] st (fun v s => Fr st s ∧ ∃ b, v = bl b ∧ (b = true ↔ Below (pC x.toNat) l)) := by
  refine Ca.of (hf := cf45) rfl rfl [q0, q1] [.tmp q4] rfl rfl rfl fun Q hQ => ?_
  have no : ∀ (Q' : X → Ev → St → Prop) (ρ : Ev) (t : St), Q' .ret = Q .ret → Fr st t → ¬ Below (pC x.toNat) l → Ru (cF F) (.seq (.reg [q4] fun c r s K => K [ff] s) .ret) ρ t Q' := fun Q' ρ t he k hn =>
    Ru.sreg (Rg.ret (Ru.ret (he ▸ hQ _ _ (.one rfl ⟨k, false, rfl, by simp [hn]⟩))))
  refine Ru.rs fun P hP => Rg.ret (hP _ _ ?_)
  clear hP P
  refine Ru.seq (Ru.rs fun P hP => Rg.ret (hP _ _ ?_))
  clear hP P
  refine Ru.at (fun ρ => ρ q0 = iv x ∧ ρ q1 = .sc y ∧ ρ q5 = iv 0) ⟨rfl, rfl, rfl⟩ fun ρ1 hE => ?_
  obtain ⟨e0, e1, e5⟩ := hE
  refine Ru.block (Ru.lp [q0, q1] (fun j : Nat => l.length - j) (fun i ρ s => Fr st s ∧ i ≤ l.length ∧ ρ q5 = iv i ∧ ∀ z ∈ l.take i, z < pC x.toNat)
    ⟨0, Fr.refl hw, by omega, e5, fun z hz => by simp at hz⟩ fun i ρ s hk hI => ?_)
  clear e5
  obtain ⟨hf, hi, e5, hall⟩ := hI
  refine Ru.seq (Ru.rs fun P hP => ?_)
  simp -implicitDefEqProofs (disch := first | decide | omega) [hk.e, e1, e5, lnS_sat (hl.fr hf)]
  refine Rg.ret (hP _ _ ?_)
  clear hP P
  refine Ru.cond rfl (fun h => Ru.skip ?_) fun h => Ru.exit ?_
  rotate_left
  · simp at h
    have : i = l.length := by omega
    subst this
    rw [List.take_length] at hall
    simp only [Then, Out, if_true]
    refine Ru.rs fun P hP => ?_
    simp -implicitDefEqProofs (disch := first | decide | omega) [hk.e, e0]
    refine Rg.call (refV_ok _ _) fun v s' h => ?_
    obtain ⟨hs, b, rfl, hb⟩ := h
    subst s'
    refine Rg.ret (hP _ _ (Ru.ret (hQ _ _ (.one rfl ⟨hf, b, rfl, ?_⟩))))
    rw [hb.2 ⟨h0, h4⟩]
    simp only [true_iff]; exact hall
  simp at h
  have hlt : i < l.length := by omega
  have hgi := List.getElem?_eq_getElem hlt
  have hmem := List.getElem_mem hlt
  generalize l[i] = z at hgi hmem
  obtain ⟨id1, o1, hx1, hc1, _⟩ := elt1 (hl.fr hf) hgi
  refine Ru.seq (Ru.block (Ru.ds fun P hP => ?_))
  simp -implicitDefEqProofs (disch := first | decide | omega) [hk.e, e0, e1, e5, hx1, hc1]
  refine Rg.dc (fun v => v = uv (pC x.toNat)) hf.wf (by decide) (by decide) ((refP_ok x h0 h4 _).imp fun v s h => ⟨by rw [h.1]; exact Fr.refl (wf_setLow (h := hf.wf)), h.2⟩) fun v t k hv => ?_
  subst hv
  simp -implicitDefEqProofs (disch := first | decide | omega)
  refine Rg.ret (hP _ _ ?_)
  clear hP P
  refine Ru.cond rfl (fun h => no _ _ _ rfl (hf.trans k) fun hh => ?_) fun hbf => Ru.skip ?_
  · simp at h
    have := hh z hmem; omega
  simp at hbf
  simp only [Then, Out]
  refine Ru.r1 fun P hP => ?_
  simp -implicitDefEqProofs (disch := first | decide | omega) [e5]
  refine Rg.ret (hP _ _ ⟨by repeat first | exact hk | refine Keep.up (by rfl) ?_, i + 1, by omega, hf.trans k, by omega, rfl, fun w hw => ?_⟩)
  rw [List.take_add_one, hgi] at hw
  rcases List.mem_append.1 hw with hw | hw
  · exact hall w hw
  · simp at hw; subst hw; exact hbf
end Go.Proofs.YticfndhcbjcklaaDoor.Ev
namespace Go.Proofs.YticfndhcbjcklaaDoor.Ev
set_option linter.unusedSimpArgs false
set_option linter.unusedVariables false
variable {st s t : St} {n i id off : Nat}
theorem callV_fn (f : Nat) (hf : Nat.blt f yBase = true) (v : V) (c : CallK) (r : Ev) (K : V → St → R) : h_op4_callV (.c (.sc (.fn f))) [.c v] c r st K = c f [v] st K := by
  have h : uncap (.fn f) = some (f, []) := by unfold uncap; rw [hf]
  show (match uncap (.fn f) with | some (f, l) => evL r [.c v] fun a => seqL (a ++ l) fun a => c f a st K | none => .fail 51) = _
  rw [h]
  show seqL ([v] ++ []) (fun a => c f a st K) = _
  rw [seqL_eq]; rfl
theorem pubC_ok (hw : WfS st) (p : GatesD) : Ca (cF F) 24 [.agg (gC p)] st (fun v s => Fr st s ∧ v = iv p.pub) := by
  refine Ca.of (hf := cf24) rfl rfl [q0] [.tmp q2] rfl rfl rfl fun Q hQ => ?_
  have f1 : Fr st (new st (gC p)) := (Fr.refl hw).new _
  have hb : rd (new st (gC p)) st.next 2 = some (is p.pub) := by rw [rd_new, if_pos rfl]; rfl
  refine Ru.rs fun P hP => ?_
  simp -implicitDefEqProofs (disch := first | decide | omega)
  refine Rg.ret (hP _ _ ?_)
  clear hP P
  refine Ru.rs fun P hP => ?_
  simp -implicitDefEqProofs (disch := first | decide | omega) [hb]
  exact Rg.ret (hP _ _ (Ru.ret (hQ _ _ (.one rfl ⟨f1, rfl⟩))))
theorem secC_ok (hw : WfS st) (p : GatesD) : Ca (cF F) 25 [.agg (gC p)] st (fun v s => Fr st s ∧ v = iv p.sec) := by
  refine Ca.of (hf := cf25) rfl rfl [q0] [.tmp q2] rfl rfl rfl fun Q hQ => ?_
  have f1 : Fr st (new st (gC p)) := (Fr.refl hw).new _
  have hb : rd (new st (gC p)) st.next 3 = some (is p.sec) := by rw [rd_new, if_pos rfl]; rfl
  refine Ru.rs fun P hP => ?_
  simp -implicitDefEqProofs (disch := first | decide | omega)
  refine Rg.ret (hP _ _ ?_)
  clear hP P
  refine Ru.rs fun P hP => ?_
  simp -implicitDefEqProofs (disch := first | decide | omega) [hb]
  exact Rg.ret (hP _ _ (Ru.ret (hQ _ _ (.one rfl ⟨f1, rfl⟩))))
/-- the lists fit the programs -/
def RowOk (w : GatesD → Int) (g : GatesD) (e : NsD) : Prop := (e.ns.length : Int) = w g ∧ Below (pC g.field.toNat) e.ns
def OneOk (w : GatesD → Int) (l : List GatesD) (ls : List NsD) : Prop := ls.length = l.length ∧ ∀ (i : Nat) (g : GatesD) (e : NsD), l[i]? = some g → ls[i]? = some e → RowOk w g e
def allNs (ls : List NsD) : List Nat := ls.flatMap NsD.ns
theorem allNs_snoc (ls : List NsD) (e : NsD) : allNs (ls ++ [e]) = allNs ls ++ e.ns := by simp [allNs]
theorem allNs_le : ∀ {ls : List NsD}, (∀ e ∈ ls, e.ns.length ≤ 200) → (allNs ls).length ≤ ls.length * 200
  | [], _ => by simp [allNs]
  | e :: ls, h => by
    have h1 := allNs_le (ls := ls) fun e he => h e (List.mem_cons_of_mem _ he)
    have h2 := h e List.mem_cons_self
    simp only [allNs, List.flatMap_cons, List.length_append, List.length_cons] at h1 ⊢
    omega
theorem one_ok (hg : Glo st) {w : GatesD → Int} {f : Nat} (hfy : Nat.blt f yBase = true) (hf : ∀ {s : St} (p : GatesD), WfS s → Ca (cF F) f [.agg (gC p)] s (fun v t => Fr s t ∧ v = iv (w p)))
    {x y : S} {l : List GatesD} {ls : List NsD} (hl : RepGs st x l) (hs : RepLs st y ls) (h24 : l.length ≤ 24) (h30 : ls.length ≤ 30) (h200 : ∀ e ∈ ls, e.ns.length ≤ 200) (hfd : ∀ g ∈ l, 0 ≤ g.field ∧ g.field < 4) :
    Ca (cF F) 23 [.sc x, .sc y, .sc (.fn f)] st (fun v s => Fr st s ∧ ∃ z b, v = .tup [(false, [z]), (false, [.bool b])] ∧ (b = true ↔ OneOk w l ls) ∧ (b = true → RepN s z (allNs ls))) := by
  refine Ca.of (hf := cf23) rfl rfl [q0, q1, q2] [.tmp q6, .tmp q7] rfl rfl rfl fun Q hQ => ?_
  have hw := hg.wf
  have no : ∀ (Q' : X → Ev → St → Prop) (ρ : Ev) (t : St), Q' .ret = Q .ret → Fr st t → ¬ OneOk w l ls → Ru (cF F) (.seq (.reg [q6, q7] fun c r s K => K [(.sc zn), ff] s) .ret) ρ t Q' := fun Q' ρ t he k hn =>
    Ru.sreg (Rg.ret (Ru.ret (he ▸ hQ _ _ (.two rfl rfl ⟨k, zn, false, rfl, by simp [hn], fun h => by cases h⟩))))
  refine Ru.rs fun P hP => Rg.ret (hP _ _ ?_)
  clear hP P
  refine Ru.seq (Ru.rs fun P hP => ?_)
  simp -implicitDefEqProofs (disch := first | decide | omega) [lnS_sat hl.sat, lnS_sat hs.sat]
  refine Rg.ret (hP _ _ ?_)
  clear hP P
  refine Ru.cond rfl (fun h => no _ _ _ rfl (Fr.refl hw) fun hh => ?_) fun h => Ru.skip ?_
  · simp at h
    have := hh.1; omega
  simp at h
  have hle : ls.length = l.length := by omega
  refine Ru.rs fun P hP => Rg.ret (hP _ _ ?_)
  clear hP P
  refine Ru.seq (Ru.rs fun P hP => ?_)
  simp -implicitDefEqProofs (disch := first | decide | omega) [lnS_sat hs.sat]
  refine Rg.ret (hP _ _ ?_)
  clear hP P
  refine Ru.at (fun ρ => ρ q0 = .sc x ∧ ρ q2 = .sc (.fn f) ∧ ρ q16 = .sc y ∧ ρ q17 = iv ls.length ∧ ρ q18 = iv 0 ∧ ρ q8 = .sc .nils) ⟨rfl, rfl, rfl, rfl, rfl, rfl⟩ fun ρ1 hE => ?_
  obtain ⟨e0, e2, e16, e17, e18, e8⟩ := hE
  refine Ru.block (Ru.lp [q0, q2, q16, q17] (fun j : Nat => ls.length - j) (fun i ρ s => Fr st s ∧ i ≤ ls.length ∧ ρ q18 = iv i ∧ (∃ z, ρ q8 = .sc z ∧ Sat s z (allNs (ls.take i)).length 1 ((allNs (ls.take i)).map us) ∧ Grw st.next s z (allNs (ls.take i)).length 1) ∧ ∀ (j : Nat) (g : GatesD) (e : NsD), j < i → l[j]? = some g → ls[j]? = some e → RowOk w g e)
    ⟨0, Fr.refl hw, by omega, e18, ⟨.nils, e8, Sat.nil 1, Grw.nil _ _⟩, fun j g e hj => by omega⟩ fun i ρ s hk hI => ?_)
  clear e18 e8
  obtain ⟨hf', hi, e18, ⟨z, e8, hz, hgz⟩, hall⟩ := hI
  refine Ru.rs fun P hP => ?_
  simp -implicitDefEqProofs (disch := first | decide | omega) [hk.e, e17, e18]
  refine Rg.ret (hP _ _ ?_)
  clear hP P
  refine Ru.seq (Ru.cond rfl (fun h => Ru.skip ?_) fun h => Ru.exit ?_)
  rotate_left
  · simp at h
    have : i = ls.length := by omega
    subst this
    rw [List.take_length] at hz
    simp only [Then, Out, if_true]
    refine Ru.sreg (Rg.ret (Ru.ret (hQ _ _ (.two (a := z) (b := .bool true) (by simp (disch := first | decide | omega) [e8]) rfl ⟨hf', z, true, rfl, ?_, fun _ => hz⟩))))
    simp only [true_iff]
    exact ⟨hle, fun j g e hj he => hall j g e (List.getElem?_eq_some_iff.1 he).1 hj he⟩
  simp at h
  have hlt : i < ls.length := by omega
  have hei := List.getElem?_eq_getElem hlt
  have hem := List.getElem_mem hlt
  generalize ls[i] = e at hei hem
  have hgi := List.getElem?_eq_getElem (show i < l.length by omega)
  have hgm := List.getElem_mem (show i < l.length by omega)
  generalize l[i] = g at hgi hgm
  obtain ⟨id1, o1, hx1, hc1, _⟩ := elt1 (hs.fr hf').sat hei
  obtain ⟨rid, ro, hix, hgc, hrs⟩ := elt (f := gC) (z := 5) (fun _ => rfl) (hl.fr hf').sat hgi
  have hgN : rdN s rid ro 5 = some (gC g) := rdN_get rfl hgc
  have hens := (hs.fr hf').ns e hem
  have he2 := h200 e hem
  have hfdg := hfd g hgm
  refine Ru.seq (Ru.block (Ru.rs fun P hP => ?_))
  simp -implicitDefEqProofs (disch := first | decide | omega) [hk.e, e16, e18, hx1, hc1]
  refine Rg.ret (hP _ _ ?_)
  clear hP P
  refine Ru.seq (Ru.rs fun P hP => ?_)
  refine Rg.imp (P := fun l' t => ∃ b, l' = [bl b] ∧ Fr s t ∧ (b = false ↔ RowOk w g e)) (Rg.hide fun P hP => ?_) fun l' t h => hP _ _ ?_
  · simp -implicitDefEqProofs (disch := first | decide | omega) [hk.e, e0, e2, lnS_sat hens, hix, hgN, callV_fn f hfy]
    refine Rg.call (hf g hf'.wf) fun v t hv => ?_
    obtain ⟨k, rfl⟩ := hv
    by_cases hwl : (e.ns.length : Int) = w g
    rotate_left
    · simp -implicitDefEqProofs (disch := first | decide | omega)
      exact Rg.ret (hP _ _ ⟨true, rfl, k, by simp; exact fun h => hwl h.1⟩)
    simp -implicitDefEqProofs (disch := first | decide | omega) [hix, k.rd (hgc 0 _ rfl), show rd t rid ro = some (is g.field) from k.rd (hgc 0 _ rfl)]
    refine Rg.call (is_ok (hg.fr (hf'.trans k)) hfdg.1 hfdg.2 (show RepN t e.sl e.ns from hens.fr k) (by omega)) fun v u hv => ?_
    obtain ⟨k2, b, rfl, hb⟩ := hv
    simp -implicitDefEqProofs (disch := first | decide | omega)
    refine Rg.ret (hP _ _ ⟨_, rfl, k.trans k2, ?_⟩)
    simp
    rw [hb]
    exact ⟨fun h => ⟨hwl, h⟩, fun h => h.2⟩
  clear hP P
  obtain ⟨b, rfl, k, hb⟩ := h
  have hfT := hf'.trans k
  refine Ru.cond rfl (fun h => no _ _ _ rfl hfT fun hh => ?_) fun hbf => Ru.skip ?_
  · rw [hb.2 (hh.2 i g e hgi hei)] at h; cases h
  have hrow := hb.1 hbf
  have hns := allNs_le (ls := ls.take i) fun e he => h200 e (List.mem_of_mem_take he)
  have hti : (ls.take i).length ≤ 30 := by rw [List.length_take]; omega
  have htot : (allNs (ls.take i)).length ≤ 6000 := by omega
  obtain ⟨z2, t2, hA, g1, g2, g3, g4⟩ := app_any (b := 8) hfT.wf (hz.fr k) (hgz.fr k) hfT.next (hens.fr k).1 (by omega) (by omega)
  simp only [Then, Out]
  refine Ru.r1 fun P hP => ?_
  simp -implicitDefEqProofs (disch := first | decide | omega) [e8, xA_sat (hens.fr k), hA]
  refine Rg.ret (hP _ _ ?_)
  clear hP P
  refine Ru.r1 fun P hP => ?_
  simp -implicitDefEqProofs (disch := first | decide | omega) [e18]
  have htk : allNs (ls.take (i + 1)) = allNs (ls.take i) ++ e.ns := by
    rw [List.take_add_one, hei]; exact allNs_snoc _ _
  refine Rg.ret (hP _ _ ⟨by repeat first | exact hk | refine Keep.up (by rfl) ?_, i + 1, by omega, g3.fr hfT hgz.sid hw, by omega, rfl, ⟨z2, ?_, ?_, ?_⟩, fun j g' e' hj h1 h2 => ?_⟩)
  · simp (disch := first | decide | omega)
  · rw [htk, List.length_append, List.map_append]; exact g1
  · rw [htk, List.length_append]; exact g2
  · rcases (show j < i ∨ j = i by omega) with hij | rfl
    · exact hall j g' e' hij h1 h2
    · rw [hgi] at h1; rw [hei] at h2; cases h1; cases h2; exact hrow
end Go.Proofs.YticfndhcbjcklaaDoor.Ev
namespace Go.Proofs.YticfndhcbjcklaaDoor.Ev
set_option linter.unusedSimpArgs false
set_option linter.unusedVariables false
variable {st s t : St} {n i id off : Nat}
theorem listed_ok (hw : WfS st) (sec : Bool) {x y : S} {l : List GatesD} {ls : List NsD} (hl : RepGs st x l) (hs : RepLs st y ls) (h24 : l.length ≤ 24) (h30 : ls.length ≤ 30) (h200 : ∀ e ∈ ls, e.ns.length ≤ 200) (hfd : ∀ g ∈ l, 0 ≤ g.field ∧ g.field < 4) :
    Ca (cF F) 27 [.sc x, .sc y, bl sec] st (fun v s => Fr st s ∧ ∃ z b, v = .tup [(false, [z]), (false, [.bool b])] ∧ (b = true ↔ OneOk (fun g => if sec = true then g.sec else g.pub) l ls) ∧ (b = true → RepN s z (allNs ls))) := by
  refine Ca.of (hf := cf27) rfl rfl [q0, q1, q2] [.tmp q6, .tmp q7] rfl rfl rfl fun Q hQ => ?_
  generalize hw' : (fun g : GatesD => if sec = true then g.sec else g.pub) = w at *
  have hwv : ∀ g, w g = if sec = true then g.sec else g.pub := fun g => by rw [← hw']
  have no : ∀ (Q' : X → Ev → St → Prop) (ρ : Ev) (t : St), Q' .ret = Q .ret → Fr st t → ¬ OneOk w l ls → Ru (cF F) (.seq (.reg [q6, q7] fun c r s K => K [(.sc zn), ff] s) .ret) ρ t Q' := fun Q' ρ t he k hn =>
    Ru.sreg (Rg.ret (Ru.ret (he ▸ hQ _ _ (.two rfl rfl ⟨k, zn, false, rfl, by simp [hn], fun h => (by cases h)⟩))))
  refine Ru.rs fun P hP => Rg.ret (hP _ _ ?_)
  clear hP P
  refine Ru.seq (Ru.rs fun P hP => ?_)
  simp -implicitDefEqProofs (disch := first | decide | omega) [lnS_sat hl.sat, lnS_sat hs.sat]
  refine Rg.ret (hP _ _ ?_)
  clear hP P
  refine Ru.cond rfl (fun h => no _ _ _ rfl (Fr.refl hw) fun hh => ?_) fun h => Ru.skip ?_
  · simp at h
    have := hh.1; omega
  simp at h
  have hle : ls.length = l.length := by omega
  refine Ru.rs fun P hP => Rg.ret (hP _ _ ?_)
  clear hP P
  refine Ru.seq (Ru.rs fun P hP => Rg.ret (hP _ _ ?_))
  clear hP P
  refine Ru.at (fun ρ => ρ q0 = .sc x ∧ ρ q1 = .sc y ∧ ρ q2 = bl sec ∧ ρ q9 = iv 0 ∧ ρ q8 = .sc .nils) ⟨rfl, rfl, rfl, rfl, rfl⟩ fun ρ1 hE => ?_
  obtain ⟨e0, e1, e2, e9, e8⟩ := hE
  refine Ru.block (Ru.lp [q0, q1, q2] (fun j : Nat => ls.length - j) (fun i ρ s => Fr st s ∧ i ≤ ls.length ∧ ρ q9 = iv i ∧ (∃ z, ρ q8 = .sc z ∧ Sat s z (allNs (ls.take i)).length 1 ((allNs (ls.take i)).map us) ∧ Grw st.next s z (allNs (ls.take i)).length 1) ∧ ∀ (j : Nat) (g : GatesD) (e : NsD), j < i → l[j]? = some g → ls[j]? = some e → RowOk w g e)
    ⟨0, Fr.refl hw, by omega, e9, ⟨.nils, e8, Sat.nil 1, Grw.nil _ _⟩, fun j g e hj => by omega⟩ fun i ρ s hk hI => ?_)
  clear e9 e8
  obtain ⟨hf', hi, e9, ⟨z, e8, hz, hgz⟩, hall⟩ := hI
  refine Ru.seq (Ru.rs fun P hP => ?_)
  simp -implicitDefEqProofs (disch := first | decide | omega) [hk.e, e0, e9, lnS_sat (hl.fr hf').sat]
  refine Rg.ret (hP _ _ ?_)
  clear hP P
  refine Ru.cond rfl (fun h => Ru.skip ?_) fun h => Ru.exit ?_
  rotate_left
  · simp at h
    have : i = ls.length := by omega
    subst this
    rw [List.take_length] at hz
    simp only [Then, Out, if_true]
    refine Ru.sreg (Rg.ret (Ru.ret (hQ _ _ (.two (a := z) (b := .bool true) (by simp (disch := first | decide | omega) [e8]) rfl ⟨hf', z, true, rfl, ?_, fun _ => hz⟩))))
    simp only [true_iff]
    exact ⟨hle, fun j g e hj he => hall j g e (List.getElem?_eq_some_iff.1 he).1 hj he⟩
  simp at h
  have hlt : i < ls.length := by omega
  have hei := List.getElem?_eq_getElem hlt
  have hem := List.getElem_mem hlt
  generalize ls[i] = e at hei hem
  have hgi := List.getElem?_eq_getElem (show i < l.length by omega)
  have hgm := List.getElem_mem (show i < l.length by omega)
  generalize l[i] = g at hgi hgm
  obtain ⟨id1, o1, hx1, hc1, _⟩ := elt1 (hs.fr hf').sat hei
  obtain ⟨rid, ro, hix, hgc, hrs⟩ := elt (f := gC) (z := 5) (fun _ => rfl) (hl.fr hf').sat hgi
  have m0 : rd s rid ro = some (is g.field) := hgc 0 _ rfl
  have m2 : rd s rid (ro + 2) = some (is g.pub) := hgc 2 _ rfl
  have m3 : rd s rid (ro + 3) = some (is g.sec) := hgc 3 _ rfl
  have hens := (hs.fr hf').ns e hem
  have he2 := h200 e hem
  have hfdg := hfd g hgm
  refine Ru.seq (Ru.block (Ru.rs fun P hP => ?_))
  simp -implicitDefEqProofs (disch := first | decide | omega) [hk.e, e0, e9, hix, m2]
  refine Rg.ret (hP _ _ ?_)
  clear hP P
  refine Ru.seq (Ru.imp (Q := fun x ρ' u => x = .normal ∧ u = s ∧ Keep [q0, q1, q2, q9, q8] ρ' ρ ∧ ρ' q10 = iv (w g)) (Ru.rs fun P hP => ?_) fun x ρ' u hx => ?_)
  · simp -implicitDefEqProofs (disch := first | decide | omega) [hk.e, e2]
    refine Rg.ret (hP _ _ ?_)
    clear hP P
    refine Ru.cond rfl (fun h => Ru.r1 fun P hP => ?_) fun h => Ru.skip ?_
    · subst h
      simp -implicitDefEqProofs (disch := first | decide | omega) [hk.e, e0, e9, hix, m3]
      exact Rg.ret (hP _ _ ⟨rfl, rfl, by repeat first | exact Keep.refl _ _ | refine Keep.up (by rfl) ?_, by rw [hwv]; rfl⟩)
    · subst h
      exact ⟨rfl, rfl, by repeat first | exact Keep.refl _ _ | refine Keep.up (by rfl) ?_, by rw [hwv]; rfl⟩
  obtain ⟨rfl, hu, hk2, e10⟩ := hx
  subst u
  have hlt1 : id1 < s.next := Fr.lt hf'.wf hc1
  have hltr : rid < s.next := Fr.lt hf'.wf m0
  simp only [Then]
  refine Ru.seq (Ru.ds fun P hP => ?_)
  refine Rg.imp (P := fun l' t => ∃ b, l' = [bl b] ∧ Fr s t ∧ (b = false ↔ RowOk w g e)) (Rg.hide fun P hP => ?_) fun l' t h => hP _ _ ?_
  · by_cases hwl : (e.ns.length : Int) = w g
    rotate_left
    · simp -implicitDefEqProofs (disch := first | decide | omega) [hk2.e, hk.e, e1, e9, e10, hx1, hc1, lnS_sat hens]
      exact Rg.ret (hP _ _ ⟨true, rfl, Fr.refl hf'.wf, by simp; exact fun h => hwl h.1⟩)
    simp -implicitDefEqProofs (disch := first | decide | omega) [dL_low, hk2.e, hk.e, e0, e1, e9, e10, hx1, hc1, lnS_sat hens, hix, m0]
    refine Rg.dc (fun v => ∃ b, v = bl b ∧ (b = true ↔ Below (pC g.field.toNat) e.ns)) hf'.wf (by decide) (by decide) ((refIs_ok (wf_setLow (h := hf'.wf)) hfdg.1 hfdg.2 (hens.low _) (by omega)).imp fun v s h => h) fun v u k hv => ?_
    obtain ⟨b, rfl, hb⟩ := hv
    simp -implicitDefEqProofs (disch := first | decide | omega)
    refine Rg.ret (hP _ _ ⟨_, rfl, k, ?_⟩)
    simp
    rw [hb]
    exact ⟨fun h => ⟨hwl, h⟩, fun h => h.2⟩
  clear hP P
  obtain ⟨b, rfl, k, hb⟩ := h
  have hfT := hf'.trans k
  refine Ru.cond rfl (fun h => no _ _ _ rfl hfT fun hh => ?_) fun hbf => Ru.skip ?_
  · rw [hb.2 (hh.2 i g e hgi hei)] at h; cases h
  have hrow := hb.1 hbf
  have hns := allNs_le (ls := ls.take i) fun e he => h200 e (List.mem_of_mem_take he)
  have hti : (ls.take i).length ≤ 30 := by rw [List.length_take]; omega
  have htot : (allNs (ls.take i)).length ≤ 6000 := by omega
  obtain ⟨z2, t2, hA, g1, g2, g3, g4⟩ := app_any (b := 8) hfT.wf (hz.fr k) (hgz.fr k) hfT.next (hens.fr k).1 (by omega) (by omega)
  simp only [Then, Out]
  refine Ru.r1 fun P hP => ?_
  simp -implicitDefEqProofs (disch := first | decide | omega) [hk2.e, hk.e, e1, e8, e9, hx1, k.rd hc1, xA_sat (hens.fr k), hA]
  refine Rg.ret (hP _ _ ?_)
  clear hP P
  refine Ru.r1 fun P hP => ?_
  simp -implicitDefEqProofs (disch := first | decide | omega) [hk2.e, e9]
  have htk : allNs (ls.take (i + 1)) = allNs (ls.take i) ++ e.ns := by
    rw [List.take_add_one, hei]; exact allNs_snoc _ _
  refine Rg.ret (hP _ _ ⟨by repeat first | exact .via (by rfl) hk2 hk | refine Keep.up (by rfl) ?_, i + 1, by omega, g3.fr hfT hgz.sid hw, by omega, rfl, ⟨z2, ?_, ?_, ?_⟩, fun j g' e' hj h1 h2 => ?_⟩)
  · simp (disch := first | decide | omega)
  · rw [htk, List.length_append, List.map_append]; exact g1
  · rw [htk, List.length_append]; exact g2
  · rcases (show j < i ∨ j = i by omega) with hij | rfl
    · exact hall j g' e' hij h1 h2
    · rw [hgi] at h1; rw [hei] at h2; cases h1; cases h2; exact hrow
/-! Inputs, both -/
structure InpOk (l : List GatesD) (a b : List NsD) : Prop where
  ne : l ≠ []
  v : AllV l
  p : OneOk GatesD.pub l a
  s : OneOk GatesD.sec l b
def InpR (l : List GatesD) (a b : List NsD) (s : St) (v : V) : Prop := ∃ y z, ∃ e : Bool, v = .tup [(false, [y]), (false, [z]), (false, [is (if e = true then 0 else 1)])] ∧ (e = true ↔ InpOk l a b) ∧ (e = true → RepN s y (allNs a) ∧ RepN s z (allNs b)) ∧ (e = false → y = .nils ∧ z = .nils)
theorem allV_field {l : List GatesD} (h : AllV l) : ∀ g ∈ l, 0 ≤ g.field ∧ g.field < 4 := fun g hg => by
  obtain ⟨i, hi⟩ := List.getElem?_of_mem hg
  have := (h i g hi).1.base
  exact ⟨this.f0, this.f4⟩
theorem resP.three {p q r : Pth} {ρ : Ev} {st : St} {P : V → St → Prop} {a b c : S} (ha : ρ p = .sc a) (hb : ρ q = .sc b) (hc : ρ r = .sc c) (h : P (.tup [(false, [a]), (false, [b]), (false, [c])]) st) : resP [.tmp p, .tmp q, .tmp r] ρ st P :=
  ⟨_, h, fun K tm ht => by show fin1 K st [rho tm p, rho tm q, rho tm r] = _; rw [ht, ha, hb, hc]; rfl⟩
theorem inputs_ok (hg : Glo st) {x y z : S} {l : List GatesD} {a b : List NsD} (hl : RepGs st x l) (ha : RepLs st y a) (hb : RepLs st z b) (h24 : l.length ≤ 24) (hr : ∀ g ∈ l, g.rows.length < 9223372036854775808)
    (a30 : a.length ≤ 30) (a200 : ∀ e ∈ a, e.ns.length ≤ 200) (b30 : b.length ≤ 30) (b200 : ∀ e ∈ b, e.ns.length ≤ 200) :
    Ca (cF F) 8 [.sc x, .sc y, .sc z] st (fun v s => Fr st s ∧ InpR l a b s v) := by
  refine Ca.of (hf := cf8) rfl rfl [q0, q1, q2] [.tmp q6, .tmp q7, .tmp q8] rfl rfl rfl fun Q hQ => ?_
  have hw := hg.wf
  have no : ∀ (Q' : X → Ev → St → Prop) (ρ : Ev) (t : St), Q' .ret = Q .ret → Fr st t → ¬ InpOk l a b → Ru (cF F) (.seq (.reg [q6, q7, q8] fun c r s K => K [(.sc zn), (.sc zn), I1] s) .ret) ρ t Q' := fun Q' ρ t he k hn =>
    Ru.sreg (Rg.ret (Ru.ret (he ▸ hQ _ _ (.three (a := .nils) (b := .nils) (c := is 1) rfl rfl rfl ⟨k, .nils, .nils, false, rfl, by simp [hn], fun h => (by cases h), fun _ => ⟨rfl, rfl⟩⟩))))
  refine Ru.rs fun P hP => Rg.ret (hP _ _ ?_)
  clear hP P
  refine Ru.seq (Ru.rs fun P hP => ?_)
  by_cases h0 : l.length = 0
  · simp -implicitDefEqProofs (disch := first | decide | omega) [lnS_sat hl.sat]
    refine Rg.ret (hP _ _ ?_)
    exact Ru.cond rfl (fun _ => no _ _ _ rfl (Fr.refl hw) fun hh => hh.ne (List.eq_nil_of_length_eq_zero h0)) fun h => by cases h
  simp -implicitDefEqProofs (disch := first | decide | omega) [lnS_sat hl.sat]
  refine Rg.call (gvalid_ok hg hl (by omega) hr) fun v s hv => ?_
  obtain ⟨k, b1, rfl, hb1⟩ := hv
  simp -implicitDefEqProofs (disch := first | decide | omega)
  refine Rg.ret (hP _ _ ?_)
  clear hP P
  refine Ru.cond rfl (fun h => no _ _ _ rfl k fun hh => ?_) fun h => Ru.skip ?_
  · rw [hb1.2 hh.v] at h; cases h
  simp at h
  have hV := hb1.1 h
  have hfd := allV_field hV
  refine Ru.rs fun P hP => ?_
  simp -implicitDefEqProofs (disch := first | decide | omega)
  refine Rg.call (one_ok (w := GatesD.pub) (hg.fr k) rfl (fun p hw => pubC_ok hw p) (hl.fr k) (ha.fr k) h24 a30 a200 hfd) fun v s2 hv => ?_
  obtain ⟨k2, y2, b2, rfl, hb2, hy2⟩ := hv
  simp -implicitDefEqProofs (disch := first | decide | omega)
  refine Rg.ret (hP _ _ ?_)
  clear hP P
  have k12 := k.trans k2
  refine Ru.rs fun P hP => ?_
  simp -implicitDefEqProofs (disch := first | decide | omega)
  refine Rg.call (one_ok (w := GatesD.sec) (hg.fr k12) rfl (fun p hw => secC_ok hw p) (hl.fr k12) (hb.fr k12) h24 b30 b200 hfd) fun v s3 hv => ?_
  obtain ⟨k3, z3, b3, rfl, hb3, hz3⟩ := hv
  simp -implicitDefEqProofs (disch := first | decide | omega)
  refine Rg.ret (hP _ _ ?_)
  clear hP P
  have k13 := k12.trans k3
  refine Ru.seq (Ru.rs fun P hP => ?_)
  simp -implicitDefEqProofs +contextual (disch := first | decide | omega) [-Bool.not_or, -Bool.not_and]
  refine Rg.ret (hP _ _ ?_)
  clear hP P
  refine Ru.cond rfl (fun h => no _ _ _ rfl k13 fun hh => ?_) fun h => Ru.skip ?_
  · rw [hb2.2 hh.p, hb3.2 hh.s] at h; cases h
  simp at h
  refine Ru.sreg (Rg.ret (Ru.ret (hQ _ _ (.three (a := y2) (b := z3) (c := is 0) rfl rfl rfl ⟨k13, y2, z3, true, rfl, ?_, fun _ => ⟨(hy2 h.1).fr k3, hz3 h.2⟩, fun h => (by cases h)⟩))))
  simp only [true_iff]
  exact ⟨fun hh => h0 (by rw [hh]; rfl), hV, hb2.1 h.1, hb3.1 h.2⟩
theorem refInputs_ok (hg : Glo st) {x y z : S} {l : List GatesD} {a b : List NsD} (hl : RepGs st x l) (ha : RepLs st y a) (hb : RepLs st z b) (h24 : l.length ≤ 24) (hr : ∀ g ∈ l, g.rows.length < 9223372036854775808)
    (a30 : a.length ≤ 30) (a200 : ∀ e ∈ a, e.ns.length ≤ 200) (b30 : b.length ≤ 30) (b200 : ∀ e ∈ b, e.ns.length ≤ 200) :
    Ca (cF F) 9 [.sc x, .sc y, .sc z] st (fun v s => Fr st s ∧ InpR l a b s v) := by
  refine Ca.of (hf := cf9) rfl rfl [q0, q1, q2] [.tmp q6, .tmp q7, .tmp q8] rfl rfl rfl fun Q hQ => ?_
  have hw := hg.wf
  have no : ∀ (Q' : X → Ev → St → Prop) (ρ : Ev) (t : St), Q' .ret = Q .ret → Fr st t → ¬ InpOk l a b → Ru (cF F) (.seq (.reg [q6, q7, q8] fun c r s K => K [(.sc zn), (.sc zn), I1] s) .ret) ρ t Q' := fun Q' ρ t he k hn =>
    Ru.sreg (Rg.ret (Ru.ret (he ▸ hQ _ _ (.three (a := .nils) (b := .nils) (c := is 1) rfl rfl rfl ⟨k, .nils, .nils, false, rfl, by simp [hn], fun h => (by cases h), fun _ => ⟨rfl, rfl⟩⟩))))
  refine Ru.rs fun P hP => Rg.ret (hP _ _ ?_)
  clear hP P
  refine Ru.seq (Ru.rs fun P hP => ?_)
  by_cases h0 : l.length = 0
  · simp -implicitDefEqProofs (disch := first | decide | omega) [lnS_sat hl.sat]
    refine Rg.ret (hP _ _ ?_)
    exact Ru.cond rfl (fun _ => no _ _ _ rfl (Fr.refl hw) fun hh => hh.ne (List.eq_nil_of_length_eq_zero h0)) fun h => by cases h
  simp -implicitDefEqProofs (disch := first | decide | omega) [lnS_sat hl.sat]
  refine Rg.call (fits_ok hg hl (by omega) hr) fun v s hv => ?_
  obtain ⟨k, b1, rfl, hb1⟩ := hv
  simp -implicitDefEqProofs (disch := first | decide | omega)
  refine Rg.ret (hP _ _ ?_)
  clear hP P
  refine Ru.cond rfl (fun h => no _ _ _ rfl k fun hh => ?_) fun h => Ru.skip ?_
  · rw [hb1.2 hh.v] at h; simp at h
  have hV : AllV l := hb1.1 (by cases b1 <;> simp at h ⊢)
  have hfd := allV_field hV
  refine Ru.rs fun P hP => ?_
  simp -implicitDefEqProofs (disch := first | decide | omega)
  refine Rg.call (listed_ok k.wf false (hl.fr k) (ha.fr k) h24 a30 a200 hfd) fun v s2 hv => ?_
  obtain ⟨k2, y2, b2, rfl, hb2, hy2⟩ := hv
  simp -implicitDefEqProofs (disch := first | decide | omega)
  refine Rg.ret (hP _ _ ?_)
  clear hP P
  have k12 := k.trans k2
  refine Ru.rs fun P hP => ?_
  simp -implicitDefEqProofs (disch := first | decide | omega)
  refine Rg.call (listed_ok k12.wf true (hl.fr k12) (hb.fr k12) h24 b30 b200 hfd) fun v s3 hv => ?_
  obtain ⟨k3, z3, b3, rfl, hb3, hz3⟩ := hv
  simp -implicitDefEqProofs (disch := first | decide | omega)
  refine Rg.ret (hP _ _ ?_)
  clear hP P
  have k13 := k12.trans k3
  refine Ru.seq (Ru.rs fun P hP => ?_)
  simp -implicitDefEqProofs +contextual (disch := first | decide | omega) [-Bool.not_or, -Bool.not_and]
  refine Rg.ret (hP _ _ ?_)
  clear hP P
  refine Ru.cond rfl (fun h => no _ _ _ rfl k13 fun hh => ?_) fun h => Ru.skip ?_
  · rw [hb2.2 hh.p, hb3.2 hh.s] at h; cases h
  simp at h
  refine Ru.sreg (Rg.ret (Ru.ret (hQ _ _ (.three (a := y2) (b := z3) (c := is 0) rfl rfl rfl ⟨k13, y2, z3, true, rfl, ?_, fun _ => ⟨(hy2 h.1).fr k3, hz3 h.2⟩, fun h => (by cases h)⟩))))
  simp only [true_iff]
  exact ⟨fun hh => h0 (by rw [hh]; rfl), hV, hb2.1 h.1, hb3.1 h.2⟩
end Go.Proofs.YticfndhcbjcklaaDoor.Ev
