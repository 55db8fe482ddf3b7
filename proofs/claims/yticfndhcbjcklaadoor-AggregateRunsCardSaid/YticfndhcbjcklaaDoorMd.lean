/- What the listed package variables hold, and the evaluator's runs, by the kernel; no conditions. -/
import Derived.Test.YticfndhcbjcklaaDoorMb
namespace Go.Proofs.YticfndhcbjcklaaDoor.Ev
set_option linter.unusedSimpArgs false
set_option linter.unusedVariables false
variable {st s t : St} {n i id off : Nat}
structure LimG (p : GatesD) : Prop where
  base : Base p
  rows : ∀ i, i < p.rows.length → OkRow (pC p.field.toNat) p.vars p.rows i
end Go.Proofs.YticfndhcbjcklaaDoor.Ev
namespace Go.Proofs.YticfndhcbjcklaaDoor.Ev
set_option linter.unusedSimpArgs false
set_option linter.unusedVariables false
variable {st s t : St} {n i id off : Nat}
def eL (n m k : Nat) : List Int := (List.range n).map fun j => if j < k then (if j < m then 0 else -1) else 0
end Go.Proofs.YticfndhcbjcklaaDoor.Ev
namespace Go.Proofs.YticfndhcbjcklaaDoor.Ev
set_option linter.unusedSimpArgs false
set_option linter.unusedVariables false
variable {st s t : St} {n i id off : Nat}
/-- all programs are valid and have one field -/
def AllV (l : List GatesD) : Prop := ∀ (i : Nat) (g : GatesD), l[i]? = some g → ValidG g ∧ ∃ g0, l[0]? = some g0 ∧ g.field = g0.field
theorem gvalid_ok (hg : Glo st) {x : S} {l : List GatesD} (hl : RepGs st x l) (hlen : l.length < 9223372036854775808) (hr : ∀ g ∈ l, g.rows.length < 9223372036854775808) :
    Ca (cF F) 22 [.sc x] st (fun v s => Fr st s ∧ ∃ b, v = bl b ∧ (b = true ↔ AllV l)) := by
  refine Ca.of (hf := cf22) rfl rfl [q0] [.tmp q2] rfl rfl rfl fun Q hQ => ?_
  have hw := hg.wf
  have no : ∀ (Q' : X → Ev → St → Prop) (ρ : Ev) (t : St), Q' .ret = Q .ret → Fr st t → ¬ AllV l → Ru (cF F) (.seq (.reg [q2] fun c r s K => K [ff] s) .ret) ρ t Q' := fun Q' ρ t he k hn =>
    Ru.sreg (Rg.ret (Ru.ret (he ▸ hQ _ _ (.one rfl ⟨k, false, rfl, by simp [hn]⟩))))
  refine Ru.rs fun P hP => Rg.ret (hP _ _ ?_)
  clear hP P
  refine Ru.seq (Ru.rs fun P hP => ?_)
  simp -implicitDefEqProofs (disch := first | decide | omega) [lnS_sat hl.sat]
  refine Rg.ret (hP _ _ ?_)
  clear hP P
  refine Ru.at (fun ρ => ρ q0 = .sc x ∧ ρ q5 = .sc x ∧ ρ q6 = iv l.length ∧ ρ q7 = iv 0) ⟨rfl, rfl, rfl, rfl⟩ fun ρ1 hE => ?_
  obtain ⟨e0, e5, e6, e7⟩ := hE
  refine Ru.block (Ru.lp [q0, q5, q6] (fun j : Nat => l.length - j) (fun i ρ s => Fr st s ∧ i ≤ l.length ∧ ρ q7 = iv i ∧ ∀ (j : Nat) (g : GatesD), j < i → l[j]? = some g → ValidG g ∧ ∃ g0, l[0]? = some g0 ∧ g.field = g0.field)
    ⟨0, Fr.refl hw, by omega, e7, fun j g hj => by omega⟩ fun i ρ s hk hI => ?_)
  clear e7
  obtain ⟨hf, hi, e7, hall⟩ := hI
  refine Ru.rs fun P hP => ?_
  simp -implicitDefEqProofs (disch := first | decide | omega) [hk.e, e6, e7]
  refine Rg.ret (hP _ _ ?_)
  clear hP P
  refine Ru.seq (Ru.cond rfl (fun h => Ru.skip ?_) fun h => Ru.exit ?_)
  rotate_left
  · simp at h
    simp only [Then, Out, if_true]
    refine Ru.sreg (Rg.ret (Ru.ret (hQ _ _ (.one rfl ⟨hf, true, rfl, ?_⟩))))
    simp only [true_iff]
    intro j g hj
    have := (List.getElem?_eq_some_iff.1 hj).1
    exact hall j g (by omega) hj
  simp at h
  have hlt : i < l.length := by omega
  have hgi := List.getElem?_eq_getElem hlt
  have hmem := List.getElem_mem hlt
  generalize l[i] = g at hgi hmem
  have hg0 := List.getElem?_eq_getElem (show 0 < l.length by omega)
  generalize l[0] = g0 at hg0
  obtain ⟨rid, ro, hix, hgc, _⟩ := elt (f := gC) (z := 5) (fun _ => rfl) (hl.fr hf).sat hgi
  have hgN : rdN s rid ro 5 = some (gC g) := rdN_get rfl hgc
  have hst : ∀ K : St → R, sto (new s [is 0, is 0, is 0, is 0, zn]) 5 (V.sc (S.ptr s.next 0)) (.agg (gC g)) K = K (wr (new s [is 0, is 0, is 0, is 0, zn]) s.next 0 (gC g)) := fun K => sto_new K rfl rfl
  refine Ru.seq (Ru.block (Ru.rs fun P hP => ?_))
  simp -implicitDefEqProofs (disch := first | decide | omega) [hk.e, e5, e7, hix, hgN, hst]
  clear hst
  have k3 := fr_mk hf.wf [is 0, is 0, is 0, is 0, zn] (gC g)
  have hrow : ∀ i, rd (wr (new s [is 0, is 0, is 0, is 0, zn]) s.next 0 (gC g)) s.next i = (gC g)[i]? := fun i => by rw [rd_mk (by simp), if_pos rfl]
  refine Rg.ret (hP _ _ ?_)
  clear hP P
  generalize wr (new s [is 0, is 0, is 0, is 0, zn]) s.next 0 (gC g) = s3 at *
  have hrN : rdN s3 s.next 0 5 = some (gC g) := rdN_get rfl fun i x hx => by rw [Nat.zero_add]; exact (hrow i).trans hx
  have hf3 := hf.trans k3
  refine Ru.seq (Ru.d1 fun P hP => ?_)
  refine Rg.imp (P := fun l' t => ∃ b, l' = [bl b] ∧ Fr s3 t ∧ (b = false ↔ ValidG g ∧ g.field = g0.field)) (Rg.hide fun P hP => ?_) fun l' t h => hP _ _ ?_
  · simp -implicitDefEqProofs (disch := first | decide | omega) [hk.e, hrN]
    refine Rg.dc (fun v => ∃ b, v = bl b ∧ (b = true ↔ ValidG g)) hf3.wf (by decide) (by decide) ((valid_ok ((hg.fr hf3).low _) g (((hl.fr hf3).rows g hmem).low _) (hr g hmem)).imp fun v s h => h) fun v t k hv => ?_
    obtain ⟨b, rfl, hb⟩ := hv
    cases b with
    | false =>
      simp -implicitDefEqProofs (disch := first | decide | omega)
      refine Rg.ret (hP _ _ ⟨true, rfl, k, ?_⟩)
      constructor
      · intro h; cases h
      · intro h; exact absurd (hb.2 h.1) (by simp)
    | true =>
    obtain ⟨id0, o0, hix0, hgc0, _⟩ := elt (f := gC) (z := 5) (fun _ => rfl) (hl.fr (hf3.trans k)).sat hg0
    have hix0' : ∀ K, ixs 5 (V.sc x) (iv 0) K = K (.sc (.ptr id0 o0)) := fun K => hix0 K
    have m0 : rd t s.next 0 = some (is g.field) := k.rd (hrow 0)
    have n0' : rd t id0 o0 = some (is g0.field) := hgc0 0 _ rfl
    simp -implicitDefEqProofs (disch := first | decide | omega) [hk.e, e0, m0, hix0', n0']
    refine Rg.ret (hP _ _ ⟨_, rfl, k, ?_⟩)
    simp [hb.1 rfl]
  obtain ⟨b, rfl, k, hb⟩ := h
  clear hP P
  refine Ru.cond rfl (fun h => no _ _ _ rfl (hf3.trans k) fun hh => ?_) fun hbf => Ru.skip ?_
  · obtain ⟨h1, g0', h2, h3⟩ := hh i g hgi
    rw [hg0] at h2; cases h2
    rw [hb.2 ⟨h1, h3⟩] at h; cases h
  simp only [Then, Out]
  refine Ru.r1 fun P hP => ?_
  simp -implicitDefEqProofs (disch := first | decide | omega) [e7]
  refine Rg.ret (hP _ _ ⟨by repeat first | exact hk | refine Keep.up (by rfl) ?_, i + 1, by omega, hf3.trans k, by omega, rfl, fun j g' hj hj' => ?_⟩)
  rcases (show j < i ∨ j = i by omega) with hij | rfl
  · exact hall j g' hij hj'
  · rw [hgi] at hj'; cases hj'
    exact ⟨(hb.1 hbf).1, g0, hg0, (hb.1 hbf).2⟩
end Go.Proofs.YticfndhcbjcklaaDoor.Ev
namespace Go.Proofs.YticfndhcbjcklaaDoor.Ev
set_option linter.unusedSimpArgs false
set_option linter.unusedVariables false
variable {st s t : St} {n i id off : Nat}
/-! numbers below P -/
def Below (P : Nat) (l : List Nat) : Prop := ∀ x ∈ l, x < P
theorem is_ok (hg : Glo st) {x : Int} (h0 : 0 ≤ x) (h4 : x < 4) {y : S} {l : List Nat} (hl : RepN st y l) (hlen : l.length < 9223372036854775808) :
    Ca (cF F) 43 [iv x, .sc y] st (fun v s => Fr st s ∧ ∃ b, v = bl b ∧ (b = true ↔ Below (pC x.toNat) l)) := by
  refine Ca.of (hf := cf43) rfl rfl [q0, q1] [.tmp q4] rfl rfl rfl fun Q hQ => ?_
  have hw := hg.wf
  have no : ∀ (Q' : X → Ev → St → Prop) (ρ : Ev) (t : St), Q' .ret = Q .ret → Fr st t → ¬ Below (pC x.toNat) l → Ru (cF F) (.seq (.reg [q4] fun c r s K => K [ff] s) .ret) ρ t Q' := fun Q' ρ t he k hn =>
    Ru.sreg (Rg.ret (Ru.ret (he ▸ hQ _ _ (.one rfl ⟨k, false, rfl, by simp [hn]⟩))))
  refine Ru.rs fun P hP => Rg.ret (hP _ _ ?_)
  clear hP P
  refine Ru.seq (Ru.rs fun P hP => ?_)
  simp -implicitDefEqProofs (disch := first | decide | omega) [lnS_sat hl]
  refine Rg.ret (hP _ _ ?_)
  clear hP P
  refine Ru.at (fun ρ => ρ q0 = iv x ∧ ρ q7 = .sc y ∧ ρ q8 = iv l.length ∧ ρ q9 = iv 0) ⟨rfl, rfl, rfl, rfl⟩ fun ρ1 hE => ?_
  obtain ⟨e0, e7, e8, e9⟩ := hE
  refine Ru.block (Ru.lp [q0, q7, q8] (fun j : Nat => l.length - j) (fun i ρ s => Fr st s ∧ i ≤ l.length ∧ ρ q9 = iv i ∧ ∀ z ∈ l.take i, z < pC x.toNat)
    ⟨0, Fr.refl hw, by omega, e9, fun z hz => by simp at hz⟩ fun i ρ s hk hI => ?_)
  clear e9
  obtain ⟨hf, hi, e9, hall⟩ := hI
  refine Ru.rs fun P hP => ?_
  simp -implicitDefEqProofs (disch := first | decide | omega) [hk.e, e8, e9]
  refine Rg.ret (hP _ _ ?_)
  clear hP P
  refine Ru.seq (Ru.cond rfl (fun h => Ru.skip ?_) fun h => Ru.exit ?_)
  rotate_left
  · simp at h
    have : i = l.length := by omega
    subst this
    rw [List.take_length] at hall
    simp only [Then, Out, if_true]
    refine Ru.rs fun P hP => ?_
    simp -implicitDefEqProofs (disch := first | decide | omega) [hk.e, e0]
    refine Rg.call (valid46 _ _) fun v s' h => ?_
    obtain ⟨hs, b, rfl, hb⟩ := h
    subst s'
    refine Rg.ret (hP _ _ (Ru.ret (hQ _ _ (.one rfl ⟨hf, b, rfl, ?_⟩))))
    rw [hb.2 ⟨h0, h4⟩]
    simp only [true_iff]; exact hall
  simp at h
  have hlt : i < l.length := by omega
  have hgi := List.getElem?_eq_getElem hlt
  have hmem := List.getElem_mem hlt
  generalize l[i] = z at hgi hmem
  obtain ⟨id1, o1, hx1, hc1, _⟩ := elt1 (hl.fr hf) hgi
  refine Ru.seq (Ru.block (Ru.rs fun P hP => ?_))
  simp -implicitDefEqProofs (disch := first | decide | omega) [hk.e, e7, e9, hx1, hc1]
  refine Rg.ret (hP _ _ ?_)
  clear hP P
  refine Ru.rs fun P hP => ?_
  simp -implicitDefEqProofs (disch := first | decide | omega) [hk.e, e0]
  refine Rg.call (P_ok (hg.fr hf) h0 h4) fun v t hv => ?_
  obtain ⟨k, rfl⟩ := hv
  simp -implicitDefEqProofs (disch := first | decide | omega)
  refine Rg.ret (hP _ _ ?_)
  clear hP P
  refine Ru.cond rfl (fun h => no _ _ _ rfl (hf.trans k) fun hh => ?_) fun hbf => Ru.skip ?_
  · simp at h
    have := hh z hmem; omega
  simp at hbf
  simp only [Then, Out]
  refine Ru.r1 fun P hP => ?_
  simp -implicitDefEqProofs (disch := first | decide | omega) [e9]
  refine Rg.ret (hP _ _ ⟨by repeat first | exact hk | refine Keep.up (by rfl) ?_, i + 1, by omega, hf.trans k, by omega, rfl, fun w hw => ?_⟩)
  rw [List.take_add_one, hgi] at hw
  rcases List.mem_append.1 hw with hw | hw
  · exact hall w hw
  · simp at hw; subst hw; exact hbf
end Go.Proofs.YticfndhcbjcklaaDoor.Ev
namespace Go.Proofs.YticfndhcbjcklaaDoor.Ev
set_option linter.unusedSimpArgs false
set_option linter.unusedVariables false
variable {st s t : St} {n i id off : Nat}
theorem callV_fn (f : Nat) (hf : Nat.blt f yBase = true) (v : V) (c : CallK) (r : Ev) (K : V → St → R) : h_op4_callV (.c (.sc (.fn f))) [.c v] c r st K = c f [v] st K := by
  have h : uncap (.fn f) = some (f, []) := by unfold uncap; rw [hf]
  show (match uncap (.fn f) with | some (f, l) => evL r [.c v] fun a => seqL (a ++ l) fun a => c f a st K | none => .fail 51) = _
  rw [h]
  show seqL ([v] ++ []) (fun a => c f a st K) = _
  rw [seqL_eq]; rfl
theorem pubC_ok (hw : WfS st) (p : GatesD) : Ca (cF F) 24 [.agg (gC p)] st (fun v s => Fr st s ∧ v = iv p.pub) := by
  refine Ca.of (hf := cf24) rfl rfl [q0] [.tmp q2] rfl rfl rfl fun Q hQ => ?_
  have f1 : Fr st (new st (gC p)) := (Fr.refl hw).new _
  have hb : rd (new st (gC p)) st.next 2 = some (is p.pub) := by rw [rd_new, if_pos rfl]; rfl
  refine Ru.rs fun P hP => ?_
  simp -implicitDefEqProofs (disch := first | decide | omega)
  refine Rg.ret (hP _ _ ?_)
  clear hP P
  refine Ru.rs fun P hP => ?_
  simp -implicitDefEqProofs (disch := first | decide | omega) [hb]
  exact Rg.ret (hP _ _ (Ru.ret (hQ _ _ (.one rfl ⟨f1, rfl⟩))))
theorem secC_ok (hw : WfS st) (p : GatesD) : Ca (cF F) 25 [.agg (gC p)] st (fun v s => Fr st s ∧ v = iv p.sec) := by
  refine Ca.of (hf := cf25) rfl rfl [q0] [.tmp q2] rfl rfl rfl fun Q hQ => ?_
  have f1 : Fr st (new st (gC p)) := (Fr.refl hw).new _
  have hb : rd (new st (gC p)) st.next 3 = some (is p.sec) := by rw [rd_new, if_pos rfl]; rfl
  refine Ru.rs fun P hP => ?_
  simp -implicitDefEqProofs (disch := first | decide | omega)
  refine Rg.ret (hP _ _ ?_)
  clear hP P
  refine Ru.rs fun P hP => ?_
  simp -implicitDefEqProofs (disch := first | decide | omega) [hb]
  exact Rg.ret (hP _ _ (Ru.ret (hQ _ _ (.one rfl ⟨f1, rfl⟩))))
/-- the lists fit the programs -/
def RowOk (w : GatesD → Int) (g : GatesD) (e : NsD) : Prop := (e.ns.length : Int) = w g ∧ Below (pC g.field.toNat) e.ns
def OneOk (w : GatesD → Int) (l : List GatesD) (ls : List NsD) : Prop := ls.length = l.length ∧ ∀ (i : Nat) (g : GatesD) (e : NsD), l[i]? = some g → ls[i]? = some e → RowOk w g e
def allNs (ls : List NsD) : List Nat := ls.flatMap NsD.ns
theorem allNs_snoc (ls : List NsD) (e : NsD) : allNs (ls ++ [e]) = allNs ls ++ e.ns := by simp [allNs]
theorem allNs_le : ∀ {ls : List NsD}, (∀ e ∈ ls, e.ns.length ≤ 200) → (allNs ls).length ≤ ls.length * 200
  | [], _ => by simp [allNs]
  | e :: ls, h => by
    have h1 := allNs_le (ls := ls) fun e he => h e (List.mem_cons_of_mem _ he)
    have h2 := h e List.mem_cons_self
    simp only [allNs, List.flatMap_cons, List.length_append, List.length_cons] at h1 ⊢
    omega
theorem one_ok (hg : Glo st) {w : GatesD → Int} {f : Nat} (hfy : Nat.blt f yBase = true) (hf : ∀ {s : St} (p : GatesD), WfS s → Ca (cF F) f [.agg (gC p)] s (fun v t => Fr s t ∧ v = iv (w p)))
    {x y : S} {l : List GatesD} {ls : List NsD} (hl : RepGs st x l) (hs : RepLs st y ls) (h24 : l.length ≤ 24) (h30 : ls.length ≤ 30) (h200 : ∀ e ∈ ls, e.ns.length ≤ 200) (hfd : ∀ g ∈ l, 0 ≤ g.field ∧ g.field < 4) :
    Ca (cF F) 23 [.sc x, .sc y, .sc (.fn f)] st (fun v s => Fr st s ∧ ∃ z b, v = .tup [(false, [z]), (false, [.bool b])] ∧ (b = true ↔ OneOk w l ls) ∧ (b = true → RepN s z (allNs ls))) := by
  refine Ca.of (hf := cf23) rfl rfl [q0, q1, q2] [.tmp q6, .tmp q7] rfl rfl rfl fun Q hQ => ?_
  have hw := hg.wf
  have no : ∀ (Q' : X → Ev → St → Prop) (ρ : Ev) (t : St), Q' .ret = Q .ret → Fr st t → ¬ OneOk w l ls → Ru (cF F) (.seq (.reg [q6, q7] fun c r s K => K [(.sc zn), ff] s) .ret) ρ t Q' := fun Q' ρ t he k hn =>
    Ru.sreg (Rg.ret (Ru.ret (he ▸ hQ _ _ (.two rfl rfl ⟨k, zn, false, rfl, by simp [hn], fun h => by cases h⟩))))
  refine Ru.rs fun P hP => Rg.ret (hP _ _ ?_)
  clear hP P
  refine Ru.seq (Ru.rs fun P hP => ?_)
  simp -implicitDefEqProofs (disch := first | decide | omega) [lnS_sat hl.sat, lnS_sat hs.sat]
  refine Rg.ret (hP _ _ ?_)
  clear hP P
  refine Ru.cond rfl (fun h => no _ _ _ rfl (Fr.refl hw) fun hh => ?_) fun h => Ru.skip ?_
  · simp at h
    have := hh.1; omega
  simp at h
  have hle : ls.length = l.length := by omega
  refine Ru.rs fun P hP => Rg.ret (hP _ _ ?_)
  clear hP P
  refine Ru.seq (Ru.rs fun P hP => ?_)
  simp -implicitDefEqProofs (disch := first | decide | omega) [lnS_sat hs.sat]
  refine Rg.ret (hP _ _ ?_)
  clear hP P
  refine Ru.at (fun ρ => ρ q0 = .sc x ∧ ρ q2 = .sc (.fn f) ∧ ρ q16 = .sc y ∧ ρ q17 = iv ls.length ∧ ρ q18 = iv 0 ∧ ρ q8 = .sc .nils) ⟨rfl, rfl, rfl, rfl, rfl, rfl⟩ fun ρ1 hE => ?_
  obtain ⟨e0, e2, e16, e17, e18, e8⟩ := hE
  refine Ru.block (Ru.lp [q0, q2, q16, q17] (fun j : Nat => ls.length - j) (fun i ρ s => Fr st s ∧ i ≤ ls.length ∧ ρ q18 = iv i ∧ (∃ z, ρ q8 = .sc z ∧ Sat s z (allNs (ls.take i)).length 1 ((allNs (ls.take i)).map us) ∧ Grw st.next s z (allNs (ls.take i)).length 1) ∧ ∀ (j : Nat) (g : GatesD) (e : NsD), j < i → l[j]? = some g → ls[j]? = some e → RowOk w g e)
    ⟨0, Fr.refl hw, by omega, e18, ⟨.nils, e8, Sat.nil 1, Grw.nil _ _⟩, fun j g e hj => by omega⟩ fun i ρ s hk hI => ?_)
  clear e18 e8
  obtain ⟨hf', hi, e18, ⟨z, e8, hz, hgz⟩, hall⟩ := hI
  refine Ru.rs fun P hP => ?_
  simp -implicitDefEqProofs (disch := first | decide | omega) [hk.e, e17, e18]
  refine Rg.ret (hP _ _ ?_)
  clear hP P
  refine Ru.seq (Ru.cond rfl (fun h => Ru.skip ?_) fun h => Ru.exit ?_)
  rotate_left
  · simp at h
    have : i = ls.length := by omega
    subst this
    rw [List.take_length] at hz
    simp only [Then, Out, if_true]
    refine Ru.sreg (Rg.ret (Ru.ret (hQ _ _ (.two (a := z) (b := .bool true) (by simp (disch := first | decide | omega) [e8]) rfl ⟨hf', z, true, rfl, ?_, fun _ => hz⟩))))
    simp only [true_iff]
    exact ⟨hle, fun j g e hj he => hall j g e (List.getElem?_eq_some_iff.1 he).1 hj he⟩
  simp at h
  have hlt : i < ls.length := by omega
  have hei := List.getElem?_eq_getElem hlt
  have hem := List.getElem_mem hlt
  generalize ls[i] = e at hei hem
  have hgi := List.getElem?_eq_getElem (show i < l.length by omega)
  have hgm := List.getElem_mem (show i < l.length by omega)
  generalize l[i] = g at hgi hgm
  obtain ⟨id1, o1, hx1, hc1, _⟩ := elt1 (hs.fr hf').sat hei
  obtain ⟨rid, ro, hix, hgc, hrs⟩ := elt (f := gC) (z := 5) (fun _ => rfl) (hl.fr hf').sat hgi
  have hgN : rdN s rid ro 5 = some (gC g) := rdN_get rfl hgc
  have hens := (hs.fr hf').ns e hem
  have he2 := h200 e hem
  have hfdg := hfd g hgm
  refine Ru.seq (Ru.block (Ru.rs fun P hP => ?_))
  simp -implicitDefEqProofs (disch := first | decide | omega) [hk.e, e16, e18, hx1, hc1]
  refine Rg.ret (hP _ _ ?_)
  clear hP P
  refine Ru.seq (Ru.rs fun P hP => ?_)
  refine Rg.imp (P := fun l' t => ∃ b, l' = [bl b] ∧ Fr s t ∧ (b = false ↔ RowOk w g e)) (Rg.hide fun P hP => ?_) fun l' t h => hP _ _ ?_
  · simp -implicitDefEqProofs (disch := first | decide | omega) [hk.e, e0, e2, lnS_sat hens, hix, hgN, callV_fn f hfy]
    refine Rg.call (hf g hf'.wf) fun v t hv => ?_
    obtain ⟨k, rfl⟩ := hv
    by_cases hwl : (e.ns.length : Int) = w g
    rotate_left
    · simp -implicitDefEqProofs (disch := first | decide | omega)
      exact Rg.ret (hP _ _ ⟨true, rfl, k, by simp; exact fun h => hwl h.1⟩)
    simp -implicitDefEqProofs (disch := first | decide | omega) [hix, k.rd (hgc 0 _ rfl), show rd t rid ro = some (is g.field) from k.rd (hgc 0 _ rfl)]
    refine Rg.call (is_ok (hg.fr (hf'.trans k)) hfdg.1 hfdg.2 (show RepN t e.sl e.ns from hens.fr k) (by omega)) fun v u hv => ?_
    obtain ⟨k2, b, rfl, hb⟩ := hv
    simp -implicitDefEqProofs (disch := first | decide | omega)
    refine Rg.ret (hP _ _ ⟨_, rfl, k.trans k2, ?_⟩)
    simp
    rw [hb]
    exact ⟨fun h => ⟨hwl, h⟩, fun h => h.2⟩
  clear hP P
  obtain ⟨b, rfl, k, hb⟩ := h
  have hfT := hf'.trans k
  refine Ru.cond rfl (fun h => no _ _ _ rfl hfT fun hh => ?_) fun hbf => Ru.skip ?_
  · rw [hb.2 (hh.2 i g e hgi hei)] at h; cases h
  have hrow := hb.1 hbf
  have hns := allNs_le (ls := ls.take i) fun e he => h200 e (List.mem_of_mem_take he)
  have hti : (ls.take i).length ≤ 30 := by rw [List.length_take]; omega
  have htot : (allNs (ls.take i)).length ≤ 6000 := by omega
  obtain ⟨z2, t2, hA, g1, g2, g3, g4⟩ := app_any (b := 8) hfT.wf (hz.fr k) (hgz.fr k) hfT.next (hens.fr k).1 (by omega) (by omega)
  simp only [Then, Out]
  refine Ru.r1 fun P hP => ?_
  simp -implicitDefEqProofs (disch := first | decide | omega) [e8, xA_sat (hens.fr k), hA]
  refine Rg.ret (hP _ _ ?_)
  clear hP P
  refine Ru.r1 fun P hP => ?_
  simp -implicitDefEqProofs (disch := first | decide | omega) [e18]
  have htk : allNs (ls.take (i + 1)) = allNs (ls.take i) ++ e.ns := by
    rw [List.take_add_one, hei]; exact allNs_snoc _ _
  refine Rg.ret (hP _ _ ⟨by repeat first | exact hk | refine Keep.up (by rfl) ?_, i + 1, by omega, g3.fr hfT hgz.sid hw, by omega, rfl, ⟨z2, ?_, ?_, ?_⟩, fun j g' e' hj h1 h2 => ?_⟩)
  · simp (disch := first | decide | omega)
  · rw [htk, List.length_append, List.map_append]; exact g1
  · rw [htk, List.length_append]; exact g2
  · rcases (show j < i ∨ j = i by omega) with hij | rfl
    · exact hall j g' e' hij h1 h2
    · rw [hgi] at h1; rw [hei] at h2; cases h1; cases h2; exact hrow
end Go.Proofs.YticfndhcbjcklaaDoor.Ev
namespace Go.Proofs.YticfndhcbjcklaaDoor.Ev
set_option linter.unusedSimpArgs false
set_option linter.unusedVariables false
variable {st s t : St} {n i id off : Nat}
/-! Inputs, both -/
structure InpOk (l : List GatesD) (a b : List NsD) : Prop where
  ne : l ≠ []
  v : AllV l
  p : OneOk GatesD.pub l a
  s : OneOk GatesD.sec l b
def InpR (l : List GatesD) (a b : List NsD) (s : St) (v : V) : Prop := ∃ y z, ∃ e : Bool, v = .tup [(false, [y]), (false, [z]), (false, [is (if e = true then 0 else 1)])] ∧ (e = true ↔ InpOk l a b) ∧ (e = true → RepN s y (allNs a) ∧ RepN s z (allNs b)) ∧ (e = false → y = .nils ∧ z = .nils)
theorem allV_field {l : List GatesD} (h : AllV l) : ∀ g ∈ l, 0 ≤ g.field ∧ g.field < 4 := fun g hg => by
  obtain ⟨i, hi⟩ := List.getElem?_of_mem hg
  have := (h i g hi).1.base
  exact ⟨this.f0, this.f4⟩
theorem resP.three {p q r : Pth} {ρ : Ev} {st : St} {P : V → St → Prop} {a b c : S} (ha : ρ p = .sc a) (hb : ρ q = .sc b) (hc : ρ r = .sc c) (h : P (.tup [(false, [a]), (false, [b]), (false, [c])]) st) : resP [.tmp p, .tmp q, .tmp r] ρ st P :=
  ⟨_, h, fun K tm ht => by show fin1 K st [rho tm p, rho tm q, rho tm r] = _; rw [ht, ha, hb, hc]; rfl⟩
theorem inputs_ok (hg : Glo st) {x y z : S} {l : List GatesD} {a b : List NsD} (hl : RepGs st x l) (ha : RepLs st y a) (hb : RepLs st z b) (h24 : l.length ≤ 24) (hr : ∀ g ∈ l, g.rows.length < 9223372036854775808)
    (a30 : a.length ≤ 30) (a200 : ∀ e ∈ a, e.ns.length ≤ 200) (b30 : b.length ≤ 30) (b200 : ∀ e ∈ b, e.ns.length ≤ 200) :
    Ca (cF F) 8 [.sc x, .sc y, .sc z] st (fun v s => Fr st s ∧ InpR l a b s v) := by
  refine Ca.of (hf := cf8) rfl rfl [q0, q1, q2] [.tmp q6, .tmp q7, .tmp q8] rfl rfl rfl fun Q hQ => ?_
  have hw := hg.wf
  have no : ∀ (Q' : X → Ev → St → Prop) (ρ : Ev) (t : St), Q' .ret = Q .ret → Fr st t → ¬ InpOk l a b → Ru (cF F) (.seq (.reg [q6, q7, q8] fun c r s K => K [(.sc zn), (.sc zn), I1] s) .ret) ρ t Q' := fun Q' ρ t he k hn =>
    Ru.sreg (Rg.ret (Ru.ret (he ▸ hQ _ _ (.three (a := .nils) (b := .nils) (c := is 1) rfl rfl rfl ⟨k, .nils, .nils, false, rfl, by simp [hn], fun h => (by cases h), fun _ => ⟨rfl, rfl⟩⟩))))
  refine Ru.rs fun P hP => Rg.ret (hP _ _ ?_)
  clear hP P
  refine Ru.seq (Ru.rs fun P hP => ?_)
  by_cases h0 : l.length = 0
  · simp -implicitDefEqProofs (disch := first | decide | omega) [lnS_sat hl.sat]
    refine Rg.ret (hP _ _ ?_)
    exact Ru.cond rfl (fun _ => no _ _ _ rfl (Fr.refl hw) fun hh => hh.ne (List.eq_nil_of_length_eq_zero h0)) fun h => by cases h
  simp -implicitDefEqProofs (disch := first | decide | omega) [lnS_sat hl.sat]
  refine Rg.call (gvalid_ok hg hl (by omega) hr) fun v s hv => ?_
  obtain ⟨k, b1, rfl, hb1⟩ := hv
  simp -implicitDefEqProofs (disch := first | decide | omega)
  refine Rg.ret (hP _ _ ?_)
  clear hP P
  refine Ru.cond rfl (fun h => no _ _ _ rfl k fun hh => ?_) fun h => Ru.skip ?_
  · rw [hb1.2 hh.v] at h; cases h
  simp at h
  have hV := hb1.1 h
  have hfd := allV_field hV
  refine Ru.rs fun P hP => ?_
  simp -implicitDefEqProofs (disch := first | decide | omega)
  refine Rg.call (one_ok (w := GatesD.pub) (hg.fr k) rfl (fun p hw => pubC_ok hw p) (hl.fr k) (ha.fr k) h24 a30 a200 hfd) fun v s2 hv => ?_
  obtain ⟨k2, y2, b2, rfl, hb2, hy2⟩ := hv
  simp -implicitDefEqProofs (disch := first | decide | omega)
  refine Rg.ret (hP _ _ ?_)
  clear hP P
  have k12 := k.trans k2
  refine Ru.rs fun P hP => ?_
  simp -implicitDefEqProofs (disch := first | decide | omega)
  refine Rg.call (one_ok (w := GatesD.sec) (hg.fr k12) rfl (fun p hw => secC_ok hw p) (hl.fr k12) (hb.fr k12) h24 b30 b200 hfd) fun v s3 hv => ?_
  obtain ⟨k3, z3, b3, rfl, hb3, hz3⟩ := hv
  simp -implicitDefEqProofs (disch := first | decide | omega)
  refine Rg.ret (hP _ _ ?_)
  clear hP P
  have k13 := k12.trans k3
  refine Ru.seq (Ru.rs fun P hP => ?_)
  simp -implicitDefEqProofs +contextual (disch := first | decide | omega) [-Bool.not_or, -Bool.not_and]
  refine Rg.ret (hP _ _ ?_)
  clear hP P
  refine Ru.cond rfl (fun h => no _ _ _ rfl k13 fun hh => ?_) fun h => Ru.skip ?_
  · rw [hb2.2 hh.p, hb3.2 hh.s] at h; cases h
  simp at h
  refine Ru.sreg (Rg.ret (Ru.ret (hQ _ _ (.three (a := y2) (b := z3) (c := is 0) rfl rfl rfl ⟨k13, y2, z3, true, rfl, ?_, fun _ => ⟨(hy2 h.1).fr k3, hz3 h.2⟩, fun h => (by cases h)⟩))))
  simp only [true_iff]
  exact ⟨fun hh => h0 (by rw [hh]; rfl), hV, hb2.1 h.1, hb3.1 h.2⟩
end Go.Proofs.YticfndhcbjcklaaDoor.Ev
