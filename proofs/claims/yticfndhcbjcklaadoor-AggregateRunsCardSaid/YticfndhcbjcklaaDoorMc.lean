/- What the listed package variables hold, and the evaluator's runs, by the kernel; no conditions. -/
import Derived.Test.YticfndhcbjcklaaDoorL
import Derived.Test.YticfndhcbjcklaaDoorMg
import Derived.Test.YticfndhcbjcklaaDoorMa
import Derived.Test.YticfndhcbjcklaaDoorEvD
import Derived.Test.YticfndhcbjcklaaDoorChecked
namespace Go.Proofs.YticfndhcbjcklaaDoor.Ev
set_option linter.unusedSimpArgs false
set_option linter.unusedVariables false
theorem holdsAll_fr {s t : St} (h : Fr s t) : ∀ {l : List (Nat × List S)}, holdsAll s.heap l = true → holdsAll t.heap l = true
  | [], _ => rfl
  | p :: r, hh => by
    have hh : (holds1 s.heap p && holdsAll s.heap r) = true := hh
    simp only [Bool.and_eq_true] at hh
    show (holds1 t.heap p && holdsAll t.heap r) = true
    rw [holdsAll_fr h hh.2, Bool.and_true]
    have h1 := hh.1
    unfold holds1 at h1 ⊢
    cases hb : s.heap.get p.1 with
    | none => rw [hb] at h1; cases h1
    | some b => rw [hb] at h1; rw [h.old _ _ hb]; exact h1
theorem lies_of {st : St} (hw : WfS st) (hh : holdsAll st.heap l0 = true) {x : Nat} (hx : x < 4) : ∃ l, Lies st 0 x (pC x) l := by
  have h1 := holdsAll_mem hh (List.mem_cons_self)
  unfold holds1 at h1
  split at h1
  · rename_i b hb
    split at h1
    · rename_i c hk hc
      have he := lEq_of h1
      obtain ⟨e1, e2⟩ := cellsAt_get hc
      have hr : ∀ i y, c[i]? = some y → rd st 0 i = some y := fun i y hy => by
        have h2 := e2 i y hy
        rw [Nat.zero_add] at h2
        unfold rd
        rw [show st.heap.get 0 = some b from hb]
        exact h2
      rw [he] at hr
      have main : ∃ l, rdN st 0 (x * 5) 5 = some (us (pC x) :: l) := by
        rcases (show x = 0 ∨ x = 1 ∨ x = 2 ∨ x = 3 by omega) with rfl | rfl | rfl | rfl
        all_goals exact ⟨_, rdN_get (l := [_, _, _, _, _]) rfl fun i y hy => by
          have hi : i < 5 := by have := (List.getElem?_eq_some_iff.1 hy).1; simpa using this
          rcases (show i = 0 ∨ i = 1 ∨ i = 2 ∨ i = 3 ∨ i = 4 by omega) with rfl | rfl | rfl | rfl | rfl <;> (cases hy; exact hr _ _ rfl)⟩
      obtain ⟨l, hl⟩ := main
      exact ⟨l, hw, hx, hl, pC_pos x, by have := pC_lt x; omega⟩
    · cases h1
  · cases h1
theorem glo_of {st : St} (hw : WfS st) (hh : holdsAll st.heap l0 = true) : Glo st := ⟨hw, fun x hx => lies_of hw hh hx⟩
theorem works_ok {st : St} (hh : holdsAll st.heap l0 = true) : Ca (cO l0 O0 F) 11 [] st (fun v s => v = bl true ∧ s = st) := Ca.known rfl hh
end Go.Proofs.YticfndhcbjcklaaDoor.Ev
namespace Go.Proofs.YticfndhcbjcklaaDoor.Ev
set_option linter.unusedSimpArgs false
set_option linter.unusedVariables false
variable {st s t : St} {n i id off : Nat}
/-! parts of lists of numbers -/
theorem cutH {y : S} {L : List Nat} (h : RepN st y L) {hi : Int} (h0 : 0 ≤ hi) (h1 : hi ≤ L.length) : ∃ z, (∀ (c : CallK) (r : Ev) (K : V → St → R), h_op3_sliceS 1 (.c (.sc y)) none (some (.c (iv hi))) none c r st K = K (.sc z) st) ∧ RepN st z (L.take hi.toNat) := by
  obtain ⟨z, h2, _, h3⟩ := sliceS_sat (show Sat st y L.length 1 (L.map us) from h) none (some hi.toNat) (by simp) (by simp; omega)
  refine ⟨z, fun c r K => ?_, ?_⟩
  · have := h2 c r K
    rw [show loOf (some hi.toNat) = some (.c (iv hi)) by show some (O.c (iv (hi.toNat : Nat))) = _; rw [show ((hi.toNat : Nat) : Int) = hi by omega]] at this
    exact this
  · unfold RepN
    rw [List.length_take, Nat.min_eq_left (by omega), List.map_take]
    simpa using h3
theorem cutL {y : S} {L : List Nat} (h : RepN st y L) {lo : Int} (h0 : 0 ≤ lo) (h1 : lo ≤ L.length) : ∃ z, (∀ (c : CallK) (r : Ev) (K : V → St → R), h_op3_sliceS 1 (.c (.sc y)) (some (.c (iv lo))) none none c r st K = K (.sc z) st) ∧ RepN st z (L.drop lo.toNat) := by
  obtain ⟨z, h2, _, h3⟩ := sliceS_sat (show Sat st y L.length 1 (L.map us) from h) (some lo.toNat) none (by simp; omega) (by simp)
  refine ⟨z, fun c r K => ?_, ?_⟩
  · have := h2 c r K
    rw [show loOf (some lo.toNat) = some (.c (iv lo)) by show some (O.c (iv (lo.toNat : Nat))) = _; rw [show ((lo.toNat : Nat) : Int) = lo by omega]] at this
    exact this
  · unfold RepN
    rw [List.length_drop, List.map_drop]
    have e : ((L.map us).drop ((some lo.toNat : Option Nat).getD 0 * 1)).take (((none : Option Nat).getD L.length - (some lo.toNat : Option Nat).getD 0) * 1) = (L.map us).drop lo.toNat := by
      show List.take ((L.length - lo.toNat) * 1) (List.drop (lo.toNat * 1) (L.map us)) = _
      rw [Nat.mul_one, Nat.mul_one]
      apply List.take_of_length_le
      rw [List.length_drop, List.length_map]
      exact Nat.le_refl _
    rw [← e]; exact h3
theorem cutB {y : S} {L : List Nat} (h : RepN st y L) {lo hi : Int} (h0 : 0 ≤ lo) (h1 : lo ≤ hi) (h2 : hi ≤ L.length) : ∃ z, (∀ (c : CallK) (r : Ev) (K : V → St → R), h_op3_sliceS 1 (.c (.sc y)) (some (.c (iv lo))) (some (.c (iv hi))) none c r st K = K (.sc z) st) ∧ RepN st z ((L.drop lo.toNat).take (hi.toNat - lo.toNat)) := by
  obtain ⟨z, h3, _, h4⟩ := sliceS_sat (show Sat st y L.length 1 (L.map us) from h) (some lo.toNat) (some hi.toNat) (by simp; omega) (by simp; omega)
  refine ⟨z, fun c r K => ?_, ?_⟩
  · have := h3 c r K
    rw [show loOf (some lo.toNat) = some (.c (iv lo)) by show some (O.c (iv (lo.toNat : Nat))) = _; rw [show ((lo.toNat : Nat) : Int) = lo by omega], show loOf (some hi.toNat) = some (.c (iv hi)) by show some (O.c (iv (hi.toNat : Nat))) = _; rw [show ((hi.toNat : Nat) : Int) = hi by omega]] at this
    exact this
  · unfold RepN
    rw [List.length_take, List.length_drop, Nat.min_eq_left (by omega), List.map_take, List.map_drop]
    simpa using h4
/-- what Run gives of a program is what the joined run gives of it -/
theorem parts_eq {l : List GatesD} (hV : AllV l) {A B : List NsD} (hA : OneOk GatesD.pub l A) (hB : OneOk GatesD.sec l B) (y : S) {i : Nat} {g : GatesD} {a b : NsD} (hg : l[i]? = some g) (ha : A[i]? = some a) (hbb : B[i]? = some b)
    {p q o : Nat} (hp : (p : Int) = aI l i) (hq : (q : Int) = bI l i) (ho : (o : Int) = cI l i) {n m : Nat} (hn : (n : Int) = g.pub) (hm : (m : Int) = g.sec) :
    (runV g a.ns b.ns).2.take n = ((runV (jp l y) (allNs A) (allNs B)).2.drop p).take n ∧ ((runV g a.ns b.ns).2.drop n).take m = ((runV (jp l y) (allNs A) (allNs B)).2.drop q).take m ∧ (runV g a.ns b.ns).2.drop (n + m) = ((runV (jp l y) (allNs A) (allNs B)).2.drop o).take (g.vars.toNat - n - m) := by
  have hb := allV_base hV
  have v := iv_of hb hg
  have b1 := v.b.v0
  have b2 := v.b.p0
  have b3 := v.b.s0
  have hr := join_run hV hA hB y l.length (Nat.le_refl _) i g a b hg ha hbb
  rw [if_pos (List.getElem?_eq_some_iff.1 hg).1] at hr
  have hvl : (runV g a.ns b.ns).2.length = g.vars.toNat := hr.sv
  have key := join_vals hV hA hB y hg ha hbb
  generalize (runV g a.ns b.ns).2 = W at *
  generalize (runV (jp l y) (allNs A) (allNs B)).2 = U at *
  have e : ∀ w : Nat, (w : Int) < g.vars → ∀ u, emb l i g w = u → U[u]? = W[w]? := fun w hw u hu => by rw [← hu]; exact key w (by omega)
  unfold aI at hp
  unfold bI at hq
  unfold cI at ho
  refine ⟨?_, ?_, ?_⟩
  · apply List.ext_getElem?
    intro w
    rw [List.getElem?_take, List.getElem?_take]
    split
    · rw [List.getElem?_drop]
      refine (e w (by omega) _ ?_).symm
      rcases emb_cases v (w := w) (by omega) with ⟨h1, h2⟩ | ⟨h1, h2, h3⟩ | ⟨h1, h2⟩ <;> omega
    · rfl
  · apply List.ext_getElem?
    intro w
    rw [List.getElem?_take, List.getElem?_take]
    split
    · rw [List.getElem?_drop, List.getElem?_drop]
      refine (e (n + w) (by omega) _ ?_).symm
      rcases emb_cases v (w := n + w) (by omega) with ⟨h1, h2⟩ | ⟨h1, h2, h3⟩ | ⟨h1, h2⟩ <;> omega
    · rfl
  · apply List.ext_getElem?
    intro w
    rw [List.getElem?_take, List.getElem?_drop]
    split
    · rw [List.getElem?_drop]
      refine (e (n + m + w) (by omega) _ ?_).symm
      rcases emb_cases v (w := n + m + w) (by omega) with ⟨h1, h2⟩ | ⟨h1, h2, h3⟩ | ⟨h1, h2⟩ <;> omega
    · exact List.getElem?_eq_none_iff.2 (by omega)
end Go.Proofs.YticfndhcbjcklaaDoor.Ev
namespace Go.Proofs.YticfndhcbjcklaaDoor.Ev
set_option linter.unusedSimpArgs false
set_option linter.unusedVariables false
variable {st s t : St} {n i id off : Nat}
theorem row2_of {st : St} (hw : WfS st) (hh : holdsAll st.heap l0 = true) {x : Nat} (hx : x < 4) : ∃ w z, Lies st 0 x (pC x) [us (gN x), w, is (eN x), z] := by
  have h1 := holdsAll_mem hh (List.mem_cons_self)
  unfold holds1 at h1
  split at h1
  · rename_i b hb
    split at h1
    · rename_i c hk hc
      have he := lEq_of h1
      obtain ⟨e1, e2⟩ := cellsAt_get hc
      have hr : ∀ i y, c[i]? = some y → rd st 0 i = some y := fun i y hy => by
        have h2 := e2 i y hy
        rw [Nat.zero_add] at h2
        unfold rd
        rw [show st.heap.get 0 = some b from hb]
        exact h2
      rw [he] at hr
      have main : ∃ w z, rdN st 0 (x * 5) 5 = some [us (pC x), us (gN x), w, is (eN x), z] := by
        rcases (show x = 0 ∨ x = 1 ∨ x = 2 ∨ x = 3 by omega) with rfl | rfl | rfl | rfl
        all_goals exact ⟨_, _, rdN_get (l := [_, _, _, _, _]) rfl fun i y hy => by
          have hi : i < 5 := by have := (List.getElem?_eq_some_iff.1 hy).1; simpa using this
          rcases (show i = 0 ∨ i = 1 ∨ i = 2 ∨ i = 3 ∨ i = 4 by omega) with rfl | rfl | rfl | rfl | rfl <;> (cases hy; exact hr _ _ rfl)⟩
      obtain ⟨w, z, hl⟩ := main
      exact ⟨w, z, hw, hx, hl, pC_pos x, by have := pC_lt x; omega⟩
    · cases h1
  · cases h1
theorem glo2_of {st : St} (hw : WfS st) (hh : holdsAll st.heap l0 = true) : Glo2 st := ⟨glo_of hw hh, fun x hx => row2_of hw hh hx⟩
/-- a call in a region that draws, and what it leaves in memory -/
theorem Rg.dch {C : Nat → CallK} {s : St} {al lm sm hv : Nat} {ll ss : List (Nat × Nat)} {bit pre f : Nat} {args : List V} (P1 : V → St → Prop) {P : List V → St → Prop} {G : CallK → (List V → St → R) → V → Mk → St → R} (hr : ∀ v h nx a b, P1 v ⟨h, nx, a⟩ → P1 v ⟨h, nx, b⟩) (hw : WfS s) (h1 : sub' al pre = true) (h2 : sub' sm pre = true)
    (h : Ca C f args (setLow s s.next) (fun v s' => Fr (setLow s s.next) s' ∧ P1 v s')) (k : ∀ v s', Fr s s' → P1 v s' → Rg C (fun c K => G c K v ⟨al ||| bit, lm, sm, hv ||| bit, [], ll, ss⟩ s') P) : Rg C (fun c K => Ev.dw3 ⟨al, lm, sm, hv, [], ll, ss⟩ bit pre s (fun s q => c f args s q) (G c K)) P := by
  obtain ⟨v, s', ⟨k1, k2⟩, n, h3⟩ := h
  have hF := Fr.setLow (h := hw) k1
  obtain ⟨l, s2, h4, n', h5⟩ := k v _ hF (by cases s'; exact hr _ _ _ _ _ k2)
  refine ⟨l, s2, h4, max n n', fun x hx K => ?_⟩
  show iteB (okH _ pre) (C x f args (setLow s s.next) fun v st' => heavyK s.next s.low pre bit _ (fun mk st => G (C x) K v mk st) st') (.fail 89) = _
  rw [okH_all h1 h2, iteB_true, h3 x (by omega)]
  have hl : s.next ≤ s'.low := by have := k1.low; cases s; simpa [Ev.setLow] using this
  rw [← h5 x (by omega) K]
  cases s' with
  | mk hp nx lo =>
    show iteB (Nat.blt lo s.next) _ (mkH _ bit fun mk => G (C x) K v mk ⟨hp, nx, s.low⟩) = _
    have : Nat.blt lo s.next = false := by rw [← Bool.not_eq_true]; intro hh; have := blt_of hh; simp at hl; omega
    rw [this, iteB_false, mkH_mk]
set_option maxHeartbeats 1600000 in
theorem runs_law {st : St} (hw : WfS st) (hh : holdsAll st.heap l0 = true) {x z : S} {l : List GatesD} {ns : List Nat} (hl : RepGs st x l) (hz : RepN st z ns)
    (hlen : l.length < 9223372036854775808) (hr : ∀ g ∈ l, g.rows.length < 9223372036854775808) (hzl : ns.length < 9223372036854775808) (Q : X → Ev → St → Prop) (hQ : ∀ ρ s', ρ q4 = bl true → Q .ret ρ s') :
    Ru (cO l0 O0 F) cf5.body (updE [q0, q1] [.sc x, .sc z] ev0) st Q := by
  refine Ru.rs fun P hP => Rg.ret (hP _ _ ?_)
  clear hP P
  refine Ru.rs fun P hP => ?_
  simp -implicitDefEqProofs (disch := first | decide | omega)
  refine Rg.call (Ca.none rfl (few6_ok hw hl hlen)) fun v s1 h => ?_
  obtain ⟨f1, xs, L, rfl, hL, h6, h200⟩ := h
  refine Rg.ret (hP _ _ ?_)
  clear hP P
  have hrows : ∀ g ∈ L, g.rows.length < 9223372036854775808 := fun g hg => by have := (h200 g hg).2; omega
  have wk : ∀ (Q' : X → Ev → St → Prop) (ρ : Ev) (t : St), Q' .ret = Q .ret → Fr st t → Ru (cO l0 O0 F) (.seq (.reg [q4] fun c r s K => c n11 [] s fun v0 s => K [v0] s) .ret) ρ t Q' := fun Q' ρ t he k => by
    refine Ru.rs fun P hP => ?_
    simp -implicitDefEqProofs (disch := first | decide | omega)
    refine Rg.call (works_ok (holdsAll_fr k hh)) fun v s h => ?_
    obtain ⟨rfl, hs⟩ := h
    exact Rg.ret (hP _ _ (Ru.ret (he ▸ hQ _ _ rfl)))
  refine Ru.seq (Ru.rs fun P hP => Rg.ret (hP _ _ ?_))
  clear hP P
  refine Ru.at (fun ρ => ρ q0 = .sc xs ∧ ρ q1 = .sc z ∧ ρ q5 = iv 0) ⟨rfl, rfl, rfl⟩ fun ρ0 hE => ?_
  obtain ⟨e0, e1, e5⟩ := hE
  refine Ru.block (Ru.lp [q0, q1] (fun i : Nat => L.length - i) (fun i ρ s => i ≤ L.length ∧ ρ q5 = iv i ∧ Fr s1 s ∧ ∀ (k : Nat) (g : GatesD), k < i → L[k]? = some g → ValidG g ∧ ∃ g0, L[0]? = some g0 ∧ g.field = g0.field)
    ⟨0, Nat.zero_le _, e5, Fr.refl f1.wf, fun k g hk _ => by omega⟩ fun i ρ s hk hI => ?_)
  clear e5
  obtain ⟨hi, e5, f2, hval⟩ := hI
  have hx := hL.fr f2
  refine Ru.seq (Ru.rs fun P hP => ?_)
  simp -implicitDefEqProofs (disch := first | decide | omega) [hk.e, e0, e5, lnS_sat hx.sat]
  refine Rg.ret (hP _ _ ?_)
  clear hP P
  refine Ru.cond rfl (fun h => Ru.skip ?_) fun h => Ru.exit ?_
  · simp at h
    simp only [Then, Out]
    have hlt : i < L.length := by omega
    have hgi := List.getElem?_eq_getElem hlt
    have hmem := List.getElem_mem hlt
    generalize L[i] = g at hgi hmem
    have hl0 : 0 < L.length := by omega
    have hg0 := List.getElem?_eq_getElem hl0
    generalize L[0] = g0 at hg0
    obtain ⟨id1, o1, hx1, hc1, _⟩ := elt (f := gC) (z := 5) (fun _ => rfl) hx.sat hgi
    obtain ⟨id2, o2, hx2, hc2, _⟩ := elt (f := gC) (z := 5) (fun _ => rfl) hx.sat hg0
    have hx2' : ∀ K, ixs 5 (.sc xs) (iv 0) K = K (.sc (.ptr id2 o2)) := hx2
    have hN1 : rdN s id1 o1 5 = some (gC g) := rdN_get rfl hc1
    have hc10 : rd s id1 o1 = some (is g.field) := hc1 0 _ rfl
    have hc20 : rd s id2 o2 = some (is g0.field) := hc2 0 _ rfl
    refine Ru.seq (Ru.block (Ru.ds fun P hP => ?_))
    refine Rg.imp (P := fun l t => ∃ b, l = [bl b] ∧ Fr s t ∧ (b = false ↔ ValidG g ∧ g.field = g0.field)) (Rg.hide fun P hP => ?_) fun l t h => hP _ _ ?_
    · simp -implicitDefEqProofs (disch := first | decide | omega) [hk.e, e0, e5, hx1, hN1]
      refine Rg.dc (fun v => ∃ b, v = bl b ∧ (b = true ↔ ValidG g)) (f1.trans f2).wf (by decide) (by decide) (Ca.none rfl ((valid_ok ((glo_of (f1.trans f2).wf (holdsAll_fr (f1.trans f2) hh)).low _) g ((hx.rows g hmem).low _) (hrows g hmem)).imp fun v s h => h)) fun v t kt hv => ?_
      obtain ⟨b, rfl, hb⟩ := hv
      cases b with
      | false =>
        simp -implicitDefEqProofs (disch := first | decide | omega)
        exact Rg.ret (hP _ _ ⟨true, rfl, kt, by simp; intro h; exact absurd (hb.2 h) (by simp)⟩)
      | true =>
        have c1 := kt.rd hc10
        have c2 := kt.rd hc20
        simp -implicitDefEqProofs (disch := first | decide | omega) [hk.e, e0, e5, hx1, hx2', c1, c2]
        exact Rg.ret (hP _ _ ⟨!eqI g.field g0.field, rfl, kt, by simp; exact fun _ => hb.1 rfl⟩)
    obtain ⟨b, rfl, kt, hb⟩ := h
    refine Ru.cond rfl (fun hh2 => wk _ _ _ rfl ((f1.trans f2).trans kt)) fun hh2 => Ru.skip ?_
    have hvg := hb.1 hh2
    simp only [Then, Out]
    refine Ru.r1 fun P hP => ?_
    simp -implicitDefEqProofs (disch := first | decide | omega) [e5]
    refine Rg.ret (hP _ _ ⟨by repeat first | exact hk | refine Keep.up (by rfl) ?_, i + 1, by omega, by omega, rfl, f2.trans kt, fun k g' hk' hg' => ?_⟩)
    rcases (show k < i ∨ k = i by omega) with h3 | rfl
    · exact hval k g' h3 hg'
    · rw [hgi] at hg'; cases hg'
      exact ⟨hvg.1, g0, hg0, hvg.2⟩
  simp at h
  have hV : AllV L := fun k g hg => hval k g (by have := (List.getElem?_eq_some_iff.1 hg).1; omega) hg
  have hb := allV_base hV
  simp only [Then, Out, if_true]
  have e0' : ρ q0 = .sc xs := by rw [hk.e q0 rfl, e0]
  have e1' : ρ q1 = .sc z := by rw [hk.e q1 rfl, e1]
  clear hk e0 e1 ρ0 hval hi h e5
  have f12 := f1.trans f2
  have glo : ∀ {t}, Fr st t → Glo2 t := fun k => glo2_of k.wf (holdsAll_fr k hh)
  have hz2 := Sat.fr hz f12
  refine Ru.rs fun P hP => ?_
  simp -implicitDefEqProofs (disch := first | decide | omega) [e0', e1']
  refine Rg.call (Ca.none rfl (made_ok (glo f12).glo (hL.fr f2) (by omega) hb hz2 hzl)) fun v s3 h => ?_
  obtain ⟨k3, y1, y2, A, B, rfl, rA, rB, oA, oB⟩ := h
  simp -implicitDefEqProofs (disch := first | decide | omega)
  refine Rg.ret (hP _ _ ?_)
  clear hP P
  have f3 := f12.trans k3
  have hAl : A.length = L.length := oA.1
  have hBl : B.length = L.length := oB.1
  have a200 : ∀ e ∈ A, e.ns.length ≤ 200 := fun e he => by
    obtain ⟨j, hj⟩ := List.getElem?_of_mem he
    have hjl := (List.getElem?_eq_some_iff.1 hj).1
    have hg := List.getElem?_eq_getElem (show j < L.length by omega)
    have h1 := (oA.2 j _ e hg hj).1
    have h2 := (hb _ (List.mem_of_getElem? hg)).p1
    omega
  have b200 : ∀ e ∈ B, e.ns.length ≤ 200 := fun e he => by
    obtain ⟨j, hj⟩ := List.getElem?_of_mem he
    have hjl := (List.getElem?_eq_some_iff.1 hj).1
    have hg := List.getElem?_eq_getElem (show j < L.length by omega)
    have h1 := (oB.2 j _ e hg hj).1
    have h2 := hb _ (List.mem_of_getElem? hg)
    have h3 := h2.v0
    have h4 := h2.p0
    have h5 := (h200 _ (List.mem_of_getElem? hg)).1
    omega
  have hjoin : ∃ (cf cw cp cs : Int) (cy : S) (e : Int), ∀ (P : V → St → Prop), (∀ t, Fr s3 t → (L = [] → e = 1) → (L ≠ [] → e = 9 ∨ (e = 0 ∧ RoomP L ∧ cf = lastF L ∧ cw = sm GatesD.vars L ∧ cp = sm GatesD.pub L ∧ cs = sm GatesD.sec L ∧ RepRows t cy (joinTo L L.length))) → P (.tup [(true, [is cf, is cw, is cp, is cs, cy]), (false, [is e])]) t) → Ca (cO l0 O0 F) 12 [.sc xs] s3 P := by
    have hc := join_ok (glo f3).glo ((hL.fr f2).fr k3) (by omega) hrows
    obtain ⟨v, t, ⟨kt, cells, e, rfl, hcase⟩, hrest⟩ := hc
    rcases hcase with ⟨q1, rfl, rfl⟩ | ⟨⟨q1, _⟩, q2, rfl, rfl⟩ | ⟨⟨q1, _⟩, q2, rfl, cy, rfl, q3⟩
    · refine ⟨0, 0, 0, 0, zn, 1, fun P hP => Ca.none rfl ⟨_, t, hP t kt (fun _ => rfl) (fun h => absurd ⟨h, hV⟩ q1), hrest⟩⟩
    · refine ⟨0, 0, 0, 0, zn, 9, fun P hP => Ca.none rfl ⟨_, t, hP t kt (fun h => absurd h q1) (fun h => .inl rfl), hrest⟩⟩
    · refine ⟨_, _, _, _, cy, 0, fun P hP => Ca.none rfl ⟨_, t, hP t kt (fun h => absurd h q1) (fun h => .inr ⟨rfl, q2, rfl, rfl, rfl, rfl, q3⟩), hrest⟩⟩
  obtain ⟨cf, cw, cp, cs, cy, ej, hjoin⟩ := hjoin
  refine Ru.rs fun P hP => ?_
  simp -implicitDefEqProofs (disch := first | decide | omega) [e0']
  refine Rg.call (hjoin (fun v t => v = .tup [(true, [is cf, is cw, is cp, is cs, cy]), (false, [is ej])] ∧ Fr s3 t ∧ (L = [] → ej = 1) ∧ (L ≠ [] → ej = 9 ∨ (ej = 0 ∧ RoomP L ∧ cf = lastF L ∧ cw = sm GatesD.vars L ∧ cp = sm GatesD.pub L ∧ cs = sm GatesD.sec L ∧ RepRows t cy (joinTo L L.length)))) fun t a b c => ⟨rfl, a, b, c⟩) fun v s4 h => ?_
  obtain ⟨rfl, k4, j0, j1⟩ := h
  clear hjoin
  have hx0 : ∀ (c : CallK) (ρ : Ev) (s : St) (K : V → St → R), xE 0 (.tup [(true, [is cf, is cw, is cp, is cs, cy]), (false, [is ej])]) c ρ s K = K (.agg [is cf, is cw, is cp, is cs, cy]) s := fun c ρ s K => xE_agg _ 0 _ c ρ K rfl
  have hst : ∀ K : St → R, Ev.sto (new s4 [is 0, is 0, is 0, is 0, zn]) 5 (V.sc (S.ptr s4.next 0)) (.agg [is cf, is cw, is cp, is cs, cy]) K = K (wr (new s4 [is 0, is 0, is 0, is 0, zn]) s4.next 0 [is cf, is cw, is cp, is cs, cy]) := fun K => sto_new K rfl rfl
  simp -implicitDefEqProofs (disch := first | decide | omega) [hx0, hst]
  refine Rg.ret (hP _ _ ?_)
  clear hP P hx0 hst
  have k5 : Fr s4 (wr (new s4 [is 0, is 0, is 0, is 0, zn]) s4.next 0 [is cf, is cw, is cp, is cs, cy]) := fr_mk k4.wf [is 0, is 0, is 0, is 0, zn] [is cf, is cw, is cp, is cs, cy]
  have b8 : Bx (wr (new s4 [is 0, is 0, is 0, is 0, zn]) s4.next 0 [is cf, is cw, is cp, is cs, cy]) s4.next [is cf, is cw, is cp, is cs, cy] := Bx.mk' rfl
  have j1' : L ≠ [] → ej = 9 ∨ (ej = 0 ∧ RoomP L ∧ cf = lastF L ∧ cw = sm GatesD.vars L ∧ cp = sm GatesD.pub L ∧ cs = sm GatesD.sec L ∧ RepRows (wr (new s4 [is 0, is 0, is 0, is 0, zn]) s4.next 0 [is cf, is cw, is cp, is cs, cy]) cy (joinTo L L.length)) := fun h => (j1 h).imp id fun ⟨a1, a2, a3, a4, a5, a6, a7⟩ => ⟨a1, a2, a3, a4, a5, a6, Sat.fr a7 k5⟩
  have k35 := k4.trans k5
  clear j1 k4 k5
  generalize wr (new s4 [is 0, is 0, is 0, is 0, zn]) s4.next 0 [is cf, is cw, is cp, is cs, cy] = s5 at *
  generalize s4.next = i8 at *
  have f5 := f3.trans k35
  refine Ru.rs fun P hP => ?_
  simp -implicitDefEqProofs (disch := first | decide | omega) [e0']
  refine Rg.call (Ca.none rfl (inputs_ok (glo f5).glo ((hL.fr f2).fr (k3.trans k35)) (rA.fr k35) (rB.fr k35) (by omega) hrows (by omega) a200 (by omega) b200)) fun v s6 h => ?_
  obtain ⟨k6, p1, p2, e, rfl, he, hp, _⟩ := h
  simp -implicitDefEqProofs (disch := first | decide | omega)
  refine Rg.ret (hP _ _ ?_)
  clear hP P
  have f6 := f5.trans k6
  have b8' := b8.fr k6
  have hL6 := (hL.fr f2).fr (k3.trans (k35.trans k6))
  refine Ru.seq (Ru.rs fun P hP => ?_)
  simp -implicitDefEqProofs (disch := first | decide | omega) [e0', lnS_sat hL6.sat]
  refine Rg.ret (hP _ _ ?_)
  clear hP P
  refine Ru.cond rfl (fun h => ?_) fun h => Ru.skip ?_
  · simp at h
    have hn : L = [] := by first | exact h | exact List.eq_nil_of_length_eq_zero (by omega)
    have hej := j0 hn
    subst hej
    have hee : e = false := by rw [← Bool.not_eq_true]; intro hh; exact (he.1 hh).ne hn
    subst hee
    refine Ru.rs fun P hP => ?_
    simp -implicitDefEqProofs (disch := first | decide | omega)
    refine Rg.call (works_ok (holdsAll_fr f6 hh)) fun v s h => ?_
    obtain ⟨rfl, hs⟩ := h
    exact Rg.ret (hP _ _ (Ru.ret (hQ _ _ rfl)))
  simp at h
  have hne : L ≠ [] := fun hh => by subst hh; simp at h
  have hee : e = true := he.2 ⟨hne, hV, oA, oB⟩
  subst hee
  obtain ⟨rp1, rp2⟩ := hp rfl
  have j2 := j1' hne
  clear j0 j1' he hp h
  simp only [Then, Out]
  refine Ru.seq (Ru.rs fun P hP => ?_)
  simp -implicitDefEqProofs (disch := first | decide | omega)
  refine Rg.ret (hP _ _ ?_)
  clear hP P
  refine Ru.cond rfl (fun h => wk _ _ _ rfl f6) fun h => Ru.skip ?_
  simp at h
  obtain ⟨rfl, hR, rfl, rfl, rfl, rfl, hjr⟩ := j2.resolve_left h
  clear h j2
  have hJ : ValidG (jp L cy) := join_valid hV hR hne (by omega) cy
  have hjr6 : RepRows s6 (jp L cy).sl (jp L cy).rows := Sat.fr hjr k6
  simp only [Then, Out]
  refine Ru.at (fun ρ => ρ q0 = .sc xs ∧ ρ q6 = .sc y1 ∧ ρ q7 = .sc y2 ∧ ρ q8 = .sc (.ptr i8 0) ∧ ρ q9 = iv 0 ∧ ρ q10 = .sc p1 ∧ ρ q11 = .sc p2 ∧ ρ q12 = iv 0) ⟨by simp (disch := first | decide | omega) [e0'], rfl, rfl, rfl, rfl, rfl, rfl, rfl⟩ fun ρ0 hE => ?_
  clear e0' e1' ρ
  obtain ⟨e0, e6, e7, e8, e9, e10, e11, e12⟩ := hE
  have bJ : rdN s6 i8 0 5 = some (gC (jp L cy)) := b8'.N (n := 5) rfl
  refine Ru.seq (Ru.rs fun P hP => ?_)
  simp -implicitDefEqProofs (disch := first | decide | omega) [e8, e9, e12, bJ]
  refine Rg.call (Ca.none rfl (valid_ok (glo f6).glo (jp L cy) hjr6 (by have := hJ.base.r1; omega))) fun v s7 h => ?_
  obtain ⟨k7, bb, rfl, hbb⟩ := h
  rw [hbb.2 hJ]
  simp -implicitDefEqProofs (disch := first | decide | omega)
  refine Rg.ret (hP _ _ (Ru.cond rfl (fun h => by cases h) fun _ => Ru.skip ?_))
  clear hP P hbb
  simp only [Then, Out]
  have f7 := f6.trans k7
  have b87 := b8'.fr k7
  have bJ7 : rdN s7 i8 0 5 = some (gC (jp L cy)) := b87.N (n := 5) rfl
  have tA := allNs_len oA L.length (Nat.le_refl _)
  have tB := allNs_len oB L.length (Nat.le_refl _)
  rw [List.take_length, List.take_of_length_le (by omega)] at tA
  rw [List.take_length, List.take_of_length_le (by omega)] at tB
  have belA : ∀ k ∈ allNs A, k < pC (jp L cy).field.toNat := fun k hk => by
    obtain ⟨e, he, hke⟩ := List.mem_flatMap.1 hk
    obtain ⟨j, hj⟩ := List.getElem?_of_mem he
    have hjl := (List.getElem?_eq_some_iff.1 hj).1
    have hg := List.getElem?_eq_getElem (show j < L.length by omega)
    have := (oA.2 j _ e hg hj).2 k hke
    rw [last_field hV hg] at this; exact this
  have belB : ∀ k ∈ allNs B, k < pC (jp L cy).field.toNat := fun k hk => by
    obtain ⟨e, he, hke⟩ := List.mem_flatMap.1 hk
    obtain ⟨j, hj⟩ := List.getElem?_of_mem he
    have hjl := (List.getElem?_eq_some_iff.1 hj).1
    have hg := List.getElem?_eq_getElem (show j < L.length by omega)
    have := (oB.2 j _ e hg hj).2 k hke
    rw [last_field hV hg] at this; exact this
  refine Ru.rs fun P hP => ?_
  simp -implicitDefEqProofs (disch := first | decide | omega) [e8, e10, e11, bJ7]
  refine Rg.call (Ca.none rfl (grun_ok (glo f7) (jp L cy) (Sat.fr hjr6 k7) hJ (Sat.fr rp1 k7) (Sat.fr rp2 k7) tA tB belA belB)) fun v s8 h => ?_
  obtain ⟨k8, ya, ea, rfl, rU, hea⟩ := h
  simp -implicitDefEqProofs (disch := first | decide | omega)
  refine Rg.ret (hP _ _ ?_)
  clear hP P belA belB
  have hUl : (((runV (jp L cy) (allNs A) (allNs B)).2.length : Nat) : Int) = sm GatesD.vars L := by
    have h1 := (runTo_len (jp L cy).field.toNat (jp L cy).rows (kv0 (jp L cy) (allNs A) (allNs B)) (jp L cy).rows.length).2
    have h2 : (kv0 (jp L cy) (allNs A) (allNs B)).2.length = (jp L cy).vars.toNat := v0L_len (by have := hJ.base.v0; have h3 : (jp L cy).pub = sm GatesD.pub L := rfl; have h4 : (jp L cy).sec = sm GatesD.sec L := rfl; omega)
    have h3 : (jp L cy).vars = sm GatesD.vars L := rfl
    have h4 := hJ.base.v0
    have h5 := hJ.base.p0
    have h6 := hJ.base.s0
    unfold runV
    omega
  have hhold := join_hold hV oA oB cy
  have hparts : ∀ {i : Nat} {g : GatesD} {a b : NsD}, L[i]? = some g → A[i]? = some a → B[i]? = some b → _ := fun hg ha hbb => @parts_eq L hV A B oA oB cy _ _ _ _ hg ha hbb
  have f8 := f7.trans k8
  have b88 := b87.fr k8
  have hUb := hJ.base.v1
  have hUb' : sm GatesD.vars L ≤ 40000 := hUb
  have hJp : sm GatesD.pub L ≤ 16 := hJ.base.p1
  have hJs : sm GatesD.sec L ≤ 20000 := hJ.base.s1
  have hJp0 : 0 ≤ sm GatesD.pub L := hJ.base.p0
  have hJs0 : 0 ≤ sm GatesD.sec L := hJ.base.s0
  generalize hU : (runV (jp L cy) (allNs A) (allNs B)).2 = U at *
  have hsv := sm_vars L
  have hso := sm_ge (oth_nn hb)
  refine Ru.seq (Ru.rs fun P hP => ?_)
  simp -implicitDefEqProofs (disch := first | decide | omega) [e8, lnS_sat rU, b88.rd 1 _ rfl]
  refine Rg.ret (hP _ _ (Ru.cond rfl (fun h => by simp at h <;> omega) fun h => Ru.skip ?_))
  clear hP P
  simp only [Then, Out]
  refine Ru.rs fun P hP => Rg.ret (hP _ _ ?_)
  clear hP P
  refine Ru.ds fun P hP => ?_
  simp -implicitDefEqProofs (disch := first | decide | omega) [e8, b88.rd 2 _ rfl, b88.rd 3 _ rfl]
  refine Rg.ret (hP _ _ ?_)
  clear hP P
  refine Ru.seq (Ru.rs fun P hP => Rg.ret (hP _ _ ?_))
  clear hP P
  refine Ru.at (fun ρ => ρ q0 = .sc xs ∧ ρ q6 = .sc y1 ∧ ρ q7 = .sc y2 ∧ ρ q8 = .sc (.ptr i8 0) ∧ ρ q13 = .sc ya ∧ ρ q14 = bl ea ∧ ρ q15 = bl true ∧ ρ q16 = iv 0 ∧ ρ q17 = iv (sm GatesD.pub L) ∧ ρ q18 = iv (sm GatesD.pub L + sm GatesD.sec L) ∧ ρ q19 = iv 0) ⟨by simp (disch := first | decide | omega) [e0], by simp (disch := first | decide | omega) [e6], by simp (disch := first | decide | omega) [e7], by simp (disch := first | decide | omega) [e8], rfl, rfl, rfl, rfl, rfl, rfl, rfl⟩ fun ρ1 hE => ?_
  clear e0 e6 e7 e8 e9 e10 e11 e12 ρ0
  obtain ⟨e0, e6, e7, e8, e13, e14, e15, e16, e17, e18, e19⟩ := hE
  have k38 : Fr s3 s8 := k35.trans (k6.trans (k7.trans k8))
  have rA8 := rA.fr k38
  have rB8 := rB.fr k38
  have hL8 := (hL.fr f2).fr (k3.trans k38)
  refine Ru.block (Ru.lp [q0, q6, q7, q8, q13, q14] (fun i : Nat => L.length - i) (fun i ρ s => i ≤ L.length ∧ ρ q19 = iv i ∧ Fr s8 s ∧ ρ q16 = iv (aI L i) ∧ ρ q17 = iv (bI L i) ∧ ρ q18 = iv (cI L i) ∧ ∃ e, ρ q15 = bl e ∧ (e = true ↔ ∀ (k : Nat) (g : GatesD) (a b : NsD), k < i → L[k]? = some g → A[k]? = some a → B[k]? = some b → AllHold g (runV g a.ns b.ns).2))
    ⟨0, Nat.zero_le _, e19, Fr.refl f8.wf, by rw [e16]; simp [aI, sm], by rw [e17]; simp [bI, sm], by rw [e18]; simp [cI, sm], true, e15, by simp⟩ fun i ρ s hk hI => ?_)
  clear e19 e16 e17 e18 e15
  obtain ⟨hi, e19, f9, e16, e17, e18, e, e15, he⟩ := hI
  have hL9 := hL8.fr f9
  have f89 := f8.trans f9
  refine Ru.seq (Ru.rs fun P hP => ?_)
  simp -implicitDefEqProofs (disch := first | decide | omega) [hk.e, e0, e19, lnS_sat hL9.sat]
  refine Rg.ret (hP _ _ ?_)
  clear hP P
  refine Ru.cond rfl (fun h => Ru.skip ?_) fun h => Ru.exit ?_
  rotate_left
  · simp at h
    have hin : i = L.length := by omega
    subst hin
    simp only [Then, Out, if_true]
    have hea2 : ea = e := by
      apply Bool.eq_iff_iff.2
      rw [hea, hhold, he]
      exact ⟨fun h k g a b _ h1 h2 h3 => h k g a b h1 h2 h3, fun h k g a b h1 h2 h3 => h k g a b (List.getElem?_eq_some_iff.1 h1).1 h1 h2 h3⟩
    subst hea2
    have haI : aI L L.length = sm GatesD.pub L := by unfold aI; rw [List.take_length]
    have b89 := b88.fr f9
    have heqv : ∀ (c : CallK) (r : Ev) (K : V → St → R), h_op4_eqv .bool false (.c (bl ea)) (.c (bl ea)) c r s K = K (bl true) s := fun c r K => by cases ea <;> rfl
    refine Ru.rs fun P hP => ?_
    simp -implicitDefEqProofs (disch := first | decide | omega) [hk.e, e8, e14, e15, e16, heqv, haI, b89.rd 2 _ rfl]
    refine Rg.call (works_ok (holdsAll_fr f89 hh)) fun v s h => ?_
    obtain ⟨rfl, hs⟩ := h
    exact Rg.ret (hP _ _ (Ru.ret (hQ _ _ rfl)))
  simp at h
  simp only [Then, Out]
  have hlt : i < L.length := by omega
  have hgi := List.getElem?_eq_getElem hlt
  have hmem := List.getElem_mem hlt
  have hiA : i < A.length := by omega
  have hiB : i < B.length := by omega
  have hai := List.getElem?_eq_getElem hiA
  have hbi := List.getElem?_eq_getElem hiB
  have hma := List.getElem_mem hiA
  have hmb := List.getElem_mem hiB
  generalize L[i] = g at hgi hmem
  generalize A[i] = a at hai hma
  generalize B[i] = b at hbi hmb
  have vI := iv_of hb hgi
  have hvg := (hV i g hgi).1
  have d1 := vI.b.v0
  have d2 := vI.b.p0
  have d3 := vI.b.s0
  have d4 := vI.p0
  have d5 := vI.p1
  have d6 := vI.s0
  have d7 := vI.s1
  have d8 := vI.o0
  have d9 : sm othN (L.take i) + (g.vars - g.pub - g.sec) ≤ sm othN L := vI.o1
  have d10 := vI.b.v1
  have la := (oA.2 i g a hgi hai)
  have lb := (oB.2 i g b hgi hbi)
  obtain ⟨id1, o1, hx1, hc1, _⟩ := elt (f := gC) (z := 5) (fun _ => rfl) hL9.sat hgi
  obtain ⟨id2, o2, hx2, hc2, _⟩ := elt1 (rA8.fr f9).sat hai
  obtain ⟨id3, o3, hx3, hc3, _⟩ := elt1 (rB8.fr f9).sat hbi
  have hN1 : rdN s id1 o1 5 = some (gC g) := rdN_get rfl hc1
  have hVl : (((runV g a.ns b.ns).2.length : Nat) : Int) = g.vars := by
    have h1 := (runTo_len g.field.toNat g.rows (kv0 g a.ns b.ns) g.rows.length).2
    have h2 : (kv0 g a.ns b.ns).2.length = g.vars.toNat := v0L_len (by have := la.1; have := lb.1; omega)
    unfold runV
    omega
  refine Ru.seq (Ru.block (Ru.ds fun P hP => ?_))
  simp -implicitDefEqProofs (disch := first | decide | omega) [hk.e, e0, e6, e7, e19, hx1, hx2, hx3, hN1, hc2, hc3]
  refine Rg.dch (fun v s' => ∃ y e, v = .tup [(false, [y]), (false, [.bool e]), (false, [is 0])] ∧ RepN s' y (runV g a.ns b.ns).2 ∧ (e = true ↔ AllHold g (runV g a.ns b.ns).2)) (fun v h nx a' b' hh => hh) f89.wf (by decide) (by decide) (Ca.none rfl (grun_ok ((glo f89).low _) g (Sat.low (hL9.rows g hmem) _) hvg (RepN.low ((rA8.fr f9).ns a hma) _) (RepN.low ((rB8.fr f9).ns b hmb) _) la.1 lb.1 la.2 lb.2)) fun v s10 k10 hv => ?_
  obtain ⟨yv, ev, rfl, rV, hev⟩ := hv
  simp -implicitDefEqProofs (disch := first | decide | omega)
  refine Rg.ret (hP _ _ ?_)
  clear hP P
  have f10 := f9.trans k10
  have hc10 : ∀ i y, (gC g)[i]? = some y → rd s10 id1 (o1 + i) = some y := fun i y hy => k10.rd (hc1 i y hy)
  have rU10 := Sat.fr rU f10
  have hpe : ∀ {p q o : Nat} (_ : (p : Int) = aI L i) (_ : (q : Int) = bI L i) (_ : (o : Int) = cI L i) {n m : Nat} (_ : (n : Int) = g.pub) (_ : (m : Int) = g.sec), (runV g a.ns b.ns).2.take n = (U.drop p).take n ∧ ((runV g a.ns b.ns).2.drop n).take m = (U.drop q).take m ∧ (runV g a.ns b.ns).2.drop (n + m) = (U.drop o).take (g.vars.toNat - n - m) := fun h1 h2 h3 _ _ h4 h5 => by
    have := parts_eq hV oA oB cy hgi hai hbi h1 h2 h3 h4 h5
    rw [hU] at this
    exact this
  obtain ⟨w1, w2, w3⟩ := hpe (p := (aI L i).toNat) (q := (bI L i).toNat) (o := (cI L i).toNat) (by unfold aI; omega) (by unfold bI; omega) (by unfold cI; omega) (n := g.pub.toNat) (m := g.sec.toNat) (by omega) (by omega)
  have hup : aI L i + g.pub ≤ sm GatesD.pub L := by unfold aI; omega
  have hap0 : 0 ≤ aI L i := by unfold aI; omega
  have hbq0 : 0 ≤ bI L i := by unfold bI; omega
  have hco0 : 0 ≤ cI L i := by unfold cI; omega
  have hbq : bI L i + g.sec ≤ sm GatesD.vars L := by unfold bI; omega
  have hco : cI L i + g.vars - g.pub - g.sec ≤ sm GatesD.vars L := by unfold cI; omega
  have haj : aI L (i + 1) = aI L i + g.pub := by unfold aI; rw [sm_take hgi]
  have hbj : bI L (i + 1) = bI L i + g.sec := by unfold bI; rw [sm_take hgi]; omega
  have hcj : cI L (i + 1) = cI L i + g.vars - g.pub - g.sec := by
    unfold cI; rw [sm_take hgi]
    show _ + (sm othN (L.take i) + (g.vars - g.pub - g.sec)) = _
    omega
  generalize hWv : (runV g a.ns b.ns).2 = W at *
  refine Ru.seq (Ru.rs fun P hP => ?_)
  simp -implicitDefEqProofs (disch := first | decide | omega) [hk.e, e0, e19, hx1, lnS_sat rV, hc10 1 _ rfl]
  refine Rg.ret (hP _ _ (Ru.cond rfl (fun h => by simp at h <;> omega) fun h => Ru.skip ?_))
  clear hP P
  simp only [Then, Out]
  refine Ru.rs fun P hP => ?_
  simp -implicitDefEqProofs (disch := first | decide | omega) [e15]
  refine Rg.ret (hP _ _ ?_)
  clear hP P
  refine Ru.ds fun P hP => ?_
  simp -implicitDefEqProofs (disch := first | decide | omega) [hk.e, e0, e19, hx1, hc10 2 _ rfl, hc10 3 _ rfl]
  refine Rg.ret (hP _ _ ?_)
  clear hP P
  refine Ru.at (fun ρ' => Keep [q0, q6, q7, q8, q13, q14] ρ' ρ1 ∧ ρ' q19 = iv i ∧ ρ' q16 = iv (aI L i) ∧ ρ' q17 = iv (bI L i) ∧ ρ' q18 = iv (cI L i) ∧ ρ' q15 = bl (e && ev) ∧ ρ' q20 = .sc yv ∧ ρ' q23 = iv g.pub ∧ ρ' q24 = iv g.sec) ⟨by repeat first | exact hk | refine Keep.up (by rfl) ?_, by simp (disch := first | decide | omega) [e19], by simp (disch := first | decide | omega) [e16], by simp (disch := first | decide | omega) [e17], by simp (disch := first | decide | omega) [e18], rfl, rfl, rfl, rfl⟩ fun ρ2 hE => ?_
  clear hk e19 e16 e17 e18 e15 ρ
  obtain ⟨hk, e19, e16, e17, e18, e15, e20, e23, e24⟩ := hE
  obtain ⟨u1, hu1, ru1⟩ := cutH rV (hi := g.pub) d2 (by omega)
  obtain ⟨u2, hu2, ru2⟩ := cutB rU10 (lo := aI L i) (hi := aI L i + g.pub) hap0 (by omega) (by omega)
  refine Ru.seq (Ru.ds fun P hP => ?_)
  simp -implicitDefEqProofs (maxSteps := 3000000) (disch := first | decide | omega) [hk.e, e13, e16, e17, e18, e20, e23, e24, lnS_sat rV, lnS_sat rU10, hu1, hu2]
  have x1 : W.take g.pub.toNat = (U.drop (aI L i).toNat).take ((aI L i + g.pub).toNat - (aI L i).toNat) := by rw [w1]; congr 1; omega
  have x2 : (W.drop g.pub.toNat).take ((g.pub + g.sec).toNat - g.pub.toNat) = (U.drop (bI L i).toNat).take ((bI L i + g.sec).toNat - (bI L i).toNat) := by
    rw [show (g.pub + g.sec).toNat - g.pub.toNat = g.sec.toNat by omega, w2]; congr 1; omega
  have x3 : W.drop (g.pub + g.sec).toNat = (U.drop (cI L i).toNat).take ((cI L i + W.length - g.pub - g.sec).toNat - (cI L i).toNat) := by
    rw [show (g.pub + g.sec).toNat = g.pub.toNat + g.sec.toNat by omega, w3]; congr 1; omega
  have f10' := f8.trans f10
  have hlw : ∀ (n : Nat), (W.take n).length < 9223372036854775808 := fun n => by rw [List.length_take]; omega
  refine Rg.dc (fun v => v = bl true) f10'.wf (by decide) (by decide) (Ca.none rfl ((same21_ok (wf_setLow (h := f10'.wf)) (ru1.low _) (ru2.low _) (hlw _)).imp fun v s h => ⟨by rw [h.1]; exact Fr.refl (wf_setLow (h := f10'.wf)), by rw [h.2, decide_eq_true x1]⟩)) fun v s11 k11 hv => ?_
  subst hv
  have f11 := f10'.trans k11
  obtain ⟨u3, hu3, ru3⟩ := cutB (Sat.fr rV k11 : RepN s11 yv W) (lo := g.pub) (hi := g.pub + g.sec) d2 (by omega) (by omega)
  obtain ⟨u4, hu4, ru4⟩ := cutB (Sat.fr rU10 k11 : RepN s11 ya U) (lo := bI L i) (hi := bI L i + g.sec) hbq0 (by omega) (by omega)
  simp -implicitDefEqProofs (maxSteps := 3000000) (disch := first | decide | omega) [hu3, hu4]
  refine Rg.dc (fun v => v = bl true) f11.wf (by decide) (by decide) (Ca.none rfl ((same21_ok (wf_setLow (h := f11.wf)) (ru3.low _) (ru4.low _) (by rw [List.length_take, List.length_drop]; omega)).imp fun v s h => ⟨by rw [h.1]; exact Fr.refl (wf_setLow (h := f11.wf)), by rw [h.2, decide_eq_true x2]⟩)) fun v s12 k12 hv => ?_
  subst hv
  have f12' := f11.trans k12
  have rV12 : RepN s12 yv W := Sat.fr rV (k11.trans k12)
  obtain ⟨u5, hu5, ru5⟩ := cutL rV12 (lo := g.pub + g.sec) (by omega) (by omega)
  obtain ⟨u6, hu6, ru6⟩ := cutB (Sat.fr rU10 (k11.trans k12) : RepN s12 ya U) (lo := cI L i) (hi := cI L i + W.length - g.pub - g.sec) hco0 (by omega) (by omega)
  simp -implicitDefEqProofs (maxSteps := 3000000) (disch := first | decide | omega) [hu5, hu6, lnS_sat rV12]
  refine Rg.dc (fun v => v = bl true) f12'.wf (by decide) (by decide) (Ca.none rfl ((same21_ok (wf_setLow (h := f12'.wf)) (ru5.low _) (ru6.low _) (by rw [List.length_drop]; omega)).imp fun v s h => ⟨by rw [h.1]; exact Fr.refl (wf_setLow (h := f12'.wf)), by rw [h.2, decide_eq_true x3]⟩)) fun v s13 k13 hv => ?_
  subst hv
  have f13 := f12'.trans k13
  have rV13 : RepN s13 yv W := Sat.fr rV12 k13
  simp -implicitDefEqProofs (maxSteps := 3000000) (disch := first | decide | omega)
  refine Rg.ret (hP _ _ (Ru.cond rfl (fun h => by cases h) fun h => Ru.skip ?_))
  clear hP P
  simp only [Then, Out]
  refine Ru.r1 fun P hP => ?_
  simp -implicitDefEqProofs (disch := first | decide | omega) [hk.e, e16, e17, e18, e20, e23, e24, lnS_sat rV13]
  refine Rg.ret (hP _ _ ?_)
  clear hP P
  simp only [Then, Out]
  refine Ru.r1 fun P hP => ?_
  simp -implicitDefEqProofs (disch := first | decide | omega) [e19]
  refine Rg.ret (hP _ _ ⟨by repeat first | exact hk | refine Keep.up (by rfl) ?_, i + 1, by omega, by omega, rfl, f10.trans (k11.trans (k12.trans k13)), ?_, ?_, ?_, e && ev, ?_, ?_⟩)
  · simp (disch := first | decide | omega) [haj]
  · simp (disch := first | decide | omega) [hbj]
  · rw [show cI L (i + 1) = cI L i + W.length - g.pub - g.sec by omega]
    simp (disch := first | decide | omega)
  · simp (disch := first | decide | omega) [e15]
  · rw [Bool.and_eq_true, he, hev]
    constructor
    · rintro ⟨h1, h2⟩ k g' a' b' hk hg' ha' hb'
      rcases (show k < i ∨ k = i by omega) with h3 | rfl
      · exact h1 k g' a' b' h3 hg' ha' hb'
      · rw [hgi] at hg'; cases hg'
        rw [hai] at ha'; cases ha'
        rw [hbi] at hb'; cases hb'
        rw [hWv]; exact h2
    · intro h1
      exact ⟨fun k g' a' b' hk hg' ha' hb' => h1 k g' a' b' (by omega) hg' ha' hb', by have := h1 i g a b (by omega) hgi hai hbi; rwa [hWv] at this⟩
theorem aruns_open {st : St} (hw : WfS st) (hh : holdsAll st.heap l0 = true) {x z : S} {l : List GatesD} {ns : List Nat} (hl : RepGs st x l) (hz : RepN st z ns)
    (hlen : l.length < 9223372036854775808) (hr : ∀ g ∈ l, g.rows.length < 9223372036854775808) (hzl : ns.length < 9223372036854775808) :
    ∃ k, callK F (runO l0 O0 F k) 5 [.sc x, .sc z] st saysTrue = .done .normal .leaf ⟨.leaf, 0, 0⟩ := by
  obtain ⟨x', t, s', ⟨rfl, h1⟩, n, h2⟩ := runs_law hw hh hl hz hlen hr hzl (fun x ρ s' => x = .ret ∧ ρ q4 = bl true) (fun ρ s' h => ⟨rfl, h⟩) (setLp [q0, q1] [.sc x, .sc z] .leaf) (by rw [rho_setLp, rho_leaf])
  refine ⟨n, ?_⟩
  show setL [q0, q1] [.sc x, .sc z] .leaf (fun tm => retK cf5.results saysTrue (runO l0 O0 F n cf5.body tm st)) = _
  rw [setL_eq', ← runC_O, h2 n (Nat.le_refl _)]
  show fin1 saysTrue s' [rho t q4] = _
  rw [h1]; rfl
end Go.Proofs.YticfndhcbjcklaaDoor.Ev
namespace Go.Proofs.YticfndhcbjcklaaDoor.Ev
open Go.RowKit Go.Proofs Go.ChangeShapes Go.WideShapes
set_option linter.unusedSimpArgs false
set_option linter.unusedVariables false
abbrev gateTy : Ty := .pair .u8 (.pair (.pair .i64 (.pair .i64 (.pair .i64 (.pair .i64 .unit)))) (.pair .u64 (.pair .u64 (.pair .u64 (.pair .u64 (.pair .u64 (.pair .i64 .unit)))))))
abbrev gatesTy : Ty := .pair .i64 (.pair .i64 (.pair .i64 (.pair .i64 (.pair (.slice gateTy) .unit))))
theorem ty22 : tyOf Tryd.prog 9 22 = some (.slice gatesTy) := by kernel_rfl
theorem gate_of {st : St} {le : List S} {y : gateTy.den} (h : RepTy gateTy st le y) : ∃ g : GateD, le = gateC g ∧ True := by
  obtain ⟨k, ⟨w0, w1, w2, w3, u1⟩, a0, a1, a2, a3, a4, r, u2⟩ := y
  obtain ⟨l0, l1, rfl, h0, l2, l3, rfl, h1, h2⟩ := h
  obtain ⟨m0, m1, rfl, e0, m2, m3, rfl, e1, m4, m5, rfl, e2, m6, m7, rfl, e3, e4⟩ := h1
  obtain ⟨b0, b1, rfl, f0, b2, b3, rfl, f1, b4, b5, rfl, f2, b6, b7, rfl, f3, b8, b9, rfl, f4, b10, b11, rfl, f5, f6⟩ := h2
  have h0 : Ru8 l0 k := h0
  have e0 : Ri64 m0 w0 := e0
  have e1 : Ri64 m2 w1 := e1
  have e2 : Ri64 m4 w2 := e2
  have e3 : Ri64 m6 w3 := e3
  have e4 : m7 = [] := e4
  have f0 : Ru64 b0 a0 := f0
  have f1 : Ru64 b2 a1 := f1
  have f2 : Ru64 b4 a2 := f2
  have f3 : Ru64 b6 a3 := f3
  have f4 : Ru64 b8 a4 := f4
  have f5 : Ri64 b10 r := f5
  have f6 : b11 = [] := f6
  refine ⟨⟨k, fun i => ([w0, w1, w2, w3] : List Int).getD i 0, fun i => ([a0, a1, a2, a3, a4] : List Nat).getD i 0, r⟩, ?_, trivial⟩
  rw [h0.1, e0.1, e1.1, e2.1, e3.1, e4, f0.1, f1.1, f2.1, f3.1, f4.1, f5.1, f6]
  rfl
theorem gates_of {st : St} {le : List S} {y : gatesTy.den} (h : RepTy gatesTy st le y) : ∃ g : GatesD, le = gC g ∧ RepRows st g.sl g.rows ∧ g.rows.length < 9223372036854775808 := by
  obtain ⟨a, b, c, d, rs, u⟩ := y
  obtain ⟨l0, l1, rfl, h0, l2, l3, rfl, h1, l4, l5, rfl, h2, l6, l7, rfl, h3, l8, l9, rfl, h4, h5⟩ := h
  have h0 : Ri64 l0 a := h0
  have h1 : Ri64 l2 b := h1
  have h2 : Ri64 l4 c := h2
  have h3 : Ri64 l6 d := h3
  have h4 : SlRep gateTy.z (RepTy gateTy) st l8 rs := h4
  have h5 : l9 = [] := h5
  obtain ⟨s, bs, rfl, e1, e2, e3, _⟩ := h4.conv (f := gateC) (G := fun _ => True) (by decide) fun le y _ h => gate_of h
  refine ⟨⟨a, b, c, d, bs, s⟩, ?_, e3, Nat.lt_of_le_of_lt e2 (by decide)⟩
  rw [h0.1, h1.1, h2.1, h3.1, h5]
  rfl
theorem gs_of {st : St} {l : List S} {y : (Ty.slice gatesTy).den} (h : RepTy (.slice gatesTy) st l y) : ∃ s L, l = [s] ∧ RepGs st s L ∧ L.length < 9223372036854775808 ∧ ∀ g ∈ L, g.rows.length < 9223372036854775808 := by
  have h : SlRep gatesTy.z (RepTy gatesTy) st l y := h
  obtain ⟨s, bs, rfl, e1, e2, e3, e4⟩ := h.conv (f := gC) (G := fun g => RepRows st g.sl g.rows ∧ g.rows.length < 9223372036854775808) (by decide) fun le y _ h => gates_of h
  exact ⟨s, bs, rfl, ⟨e3, fun g hg => (e4 g hg).1⟩, Nat.lt_of_le_of_lt e2 (by decide), fun g hg => (e4 g hg).2⟩
theorem ns_of {st : St} {l : List S} {y : (Ty.slice .u64).den} (h : RepTy (.slice .u64) st l y) : ∃ s, ∃ L : List Nat, l = [s] ∧ RepN st s L ∧ L.length < 9223372036854775808 := by
  have h : SlRep 1 (RepTy .u64) st l y := h
  obtain ⟨s, bs, rfl, e1, e2, e3, e4⟩ := h.conv (f := fun n : Nat => [us n]) (G := fun _ => True) (by decide) fun le y _ h => ⟨y, (show Ru64 le y from h).1, trivial⟩
  exact ⟨s, bs, rfl, by unfold RepN; rw [map_flat]; exact e3, Nat.lt_of_le_of_lt e2 (by decide)⟩
end Go.Proofs.YticfndhcbjcklaaDoor.Ev
namespace Go.Proofs.YticfndhcbjcklaaDoor.Ev
open Go.RowKit Go.Proofs Go.ChangeShapes Go.WideShapes
theorem ty26 : tyOf Tryd.prog 9 26 = some (.slice .u64) := by kernel_rfl
end Go.Proofs.YticfndhcbjcklaaDoor.Ev
