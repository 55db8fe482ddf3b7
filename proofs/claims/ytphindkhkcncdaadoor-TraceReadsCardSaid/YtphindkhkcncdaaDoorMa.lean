/- What the listed package variables hold, and the evaluator's runs, by the kernel; no conditions. -/
import Derived.Test.YtphindkhkcncdaaDoorE
import Derived.Test.YtphindkhkcncdaaDoorEvF
namespace Go.Proofs.YtphindkhkcncdaaDoor.Ev
set_option linter.unusedSimpArgs false
set_option linter.unusedVariables false
/-! lists of lists of numbers in memory; `small` -/
structure NsD where
  ns : List Nat
  sl : S
def RepN (st : St) (s : S) (l : List Nat) : Prop := Sat st s l.length 1 (l.map us)
structure RepLs (st : St) (s : S) (l : List NsD) : Prop where
  sat : Sat st s l.length 1 (l.map NsD.sl)
  ns : ∀ x, x ∈ l → RepN st x.sl x.ns
variable {st s t : St} {n i : Nat}
theorem RepLs.fr {x : S} {l : List NsD} (h : RepLs s x l) (k : Fr s t) : RepLs t x l := ⟨h.sat.fr k, fun g hg => (h.ns g hg).fr k⟩
/-- an element of a list -/
theorem flat_get {α : Type} {f : α → List S} {z : Nat} (hf : ∀ a, (f a).length = z) : ∀ {l : List α} {i : Nat} {a : α}, l[i]? = some a → ∀ j y, (f a)[j]? = some y → (l.flatMap f)[i * z + j]? = some y
  | [], i, a, h, j, y, hy => by simp at h
  | b :: l, 0, a, h, j, y, hy => by
    simp at h; subst h
    have hj := (List.getElem?_eq_some_iff.1 hy).1
    rw [List.flatMap_cons, Nat.zero_mul, Nat.zero_add, List.getElem?_append_left hj]; exact hy
  | b :: l, i + 1, a, h, j, y, hy => by
    rw [List.flatMap_cons, List.getElem?_append_right (by rw [hf, Nat.succ_mul]; omega), hf, show (i + 1) * z + j - z = i * z + j by rw [Nat.succ_mul]; omega]
    exact flat_get hf (by simpa using h) j y hy
theorem flat_len {α : Type} {f : α → List S} {z : Nat} (hf : ∀ a, (f a).length = z) : ∀ (l : List α), (l.flatMap f).length = l.length * z
  | [] => by simp
  | b :: l => by rw [List.flatMap_cons, List.length_append, hf, flat_len hf l, List.length_cons, Nat.succ_mul, Nat.add_comm]
theorem elt {α : Type} {f : α → List S} {z : Nat} {x : S} {l : List α} {a : α} (hf : ∀ a, (f a).length = z) (h : Sat st x l.length z (l.flatMap f)) (hi : l[i]? = some a) :
    ∃ id o, (∀ K, ixs z (.sc x) (iv i) K = K (.sc (.ptr id o))) ∧ (∀ j y, (f a)[j]? = some y → rd st id (o + j) = some y) ∧ sid x = some id := by
  have hlt := (List.getElem?_eq_some_iff.1 hi).1
  obtain ⟨id, off, c, rfl, hr⟩ := h.rd (by omega)
  refine ⟨id, off + i * z, fun K => ?_, fun j y hy => ?_, rfl⟩
  · rw [ixs_eq _ _ (by omega) (by omega)]; simp
  · rw [Nat.add_assoc]; exact hr _ _ (flat_get hf hi j y hy)
theorem map_flat {α : Type} (f : α → S) : ∀ l : List α, l.map f = l.flatMap fun a => [f a]
  | [] => rfl
  | a :: l => by rw [List.map_cons, List.flatMap_cons, map_flat f l]; rfl
theorem elt1 {α : Type} {f : α → S} {x : S} {l : List α} {a : α} (h : Sat st x l.length 1 (l.map f)) (hi : l[i]? = some a) :
    ∃ id o, (∀ K, ixs 1 (.sc x) (iv i) K = K (.sc (.ptr id o))) ∧ rd st id o = some (f a) ∧ sid x = some id := by
  rw [map_flat] at h
  obtain ⟨id, o, h1, h2, h3⟩ := elt (f := fun a => [f a]) (z := 1) (fun _ => rfl) h hi
  exact ⟨id, o, h1, h2 0 _ rfl, h3⟩

theorem small_ok (hw : WfS st) {p x : S} {l : List NsD} (hl : RepLs st x l) (hlen : l.length < 9223372036854775808) (hlen2 : ∀ y ∈ l, y.ns.length < 9223372036854775808) :
    Ca (cF F) 4 [.agg [p, x]] st (fun v s => Fr st s ∧ ∃ y L, v = .agg [p, y] ∧ RepLs s y L ∧ L.length ≤ 60 ∧ (∀ id, sid y = some id → st.next ≤ id) ∧ ∀ g ∈ L, g.ns.length ≤ 40 ∧ ∀ id, sid g.sl = some id → st.next ≤ id) := by
  refine Ca.of (hf := cf4) rfl rfl [q0] [.cellN n2 q2] rfl rfl rfl fun Q hQ => ?_
  have f1 : Fr st (new st [p, x]) := (Fr.refl hw).new _
  have f2 : Fr st (new (new st [p, x]) [zn, zn]) := f1.new _
  have b1 : Bx (new (new st [p, x]) [zn, zn]) st.next [p, x] := (Bx.new (s := st)).fr ((Fr.refl f1.wf).new _)
  have b2 : Bx (new (new st [p, x]) [zn, zn]) (st.next + 1) [zn, zn] := Bx.new (s := new st [p, x])
  refine Ru.rs fun P hP => ?_
  simp -implicitDefEqProofs (disch := first | decide | omega)
  refine Rg.ret (hP _ _ ?_)
  clear hP P
  have hn2 : st.next + 2 = (new (new st [p, x]) [zn, zn]).next := rfl
  generalize new (new st [p, x]) [zn, zn] = s2 at *
  refine Ru.rs fun P hP => Rg.ret (hP _ _ ?_)
  clear hP P
  refine Ru.seq (Ru.rs fun P hP => Rg.ret (hP _ _ ?_))
  clear hP P
  refine Ru.at (fun ρ => ρ q1 = .sc (.ptr st.next 0) ∧ ρ q2 = .sc (.ptr (st.next + 1) 0) ∧ ρ q3 = .sc .nils ∧ ρ q4 = iv 0) ⟨rfl, rfl, rfl, rfl⟩ fun ρ0 hE => ?_
  obtain ⟨e1, e2, e3, e4⟩ := hE
  refine Ru.block (Ru.lp [q1, q2] (fun i : Nat => l.length - i) (fun i ρ s => Fr s2 s ∧ i ≤ l.length ∧ i ≤ 60 ∧ ρ q4 = iv i ∧ ∃ y, ρ q3 = .sc y ∧ ∃ L, RepLs s y L ∧ Grw s2.next s y L.length 1 ∧ L.length = i ∧ ∀ g ∈ L, g.ns.length ≤ 40 ∧ ∀ id, sid g.sl = some id → sid y ≠ some id ∧ id < s.next ∧ s2.next ≤ id)
    ⟨0, Fr.refl f2.wf, Nat.zero_le _, Nat.zero_le _, e4, .nils, e3, [], ⟨Sat.nil 1, fun g hg => by cases hg⟩, Grw.nil _ _, rfl, fun g hg => by cases hg⟩ fun i ρ s' hk hI => ?_)
  clear e3 e4
  obtain ⟨hf, hi, hi60, e4, y, e3, L, hL, hG, hLi, hall⟩ := hI
  have hx := hl.fr (f2.trans hf)
  have b1' := b1.fr hf
  have fin : ∀ (ρ' : Ev) (Q' : X → Ev → St → Prop), Q' .ret = Q .ret → ρ' q1 = .sc (.ptr st.next 0) → ρ' q2 = .sc (.ptr (st.next + 1) 0) → ρ' q3 = .sc y → Ru (cF F) (.seq (.reg [] fun c r s K => fad n1 (r q1) fun v0 => sto s n1 v0 (r q3) fun s => K [] s)
    (.seq (.reg [] fun c r s K => lN s n2 (r q1) fun v0 => sto s n2 (r q2) v0 fun s => K [] s) .ret)) ρ' s' Q' := fun ρ' Q' he e1 e2 e3 => by
    refine Ru.rs fun P hP => ?_
    simp -implicitDefEqProofs (disch := first | decide | omega) [e1, e3, b1'.sto (i := 1) (by simp)]
    refine Rg.ret (hP _ _ ?_)
    clear hP P
    have kw := b1'.kpw hf.wf (i := 1) [y]
    have b3 := b1'.set (i := 1) (by simp) y
    simp only [List.set] at b3
    have b4 := (b2.fr hf).kp kw (ne_some (by omega))
    have kf := kw.fr (f2.trans hf) (fun id h => by cases h; exact Nat.le_refl _) hw
    have hy4 : ∀ id, sid y = some id → st.next + 2 ≤ id := fun id h => by have := hG.sid id h; omega
    have hL4 : RepLs (wr s' st.next 1 [y]) y L := ⟨hL.sat.keep kw fun id h he => by cases h; have := hy4 _ he; omega, fun g hg => (hL.ns g hg).keep kw fun id h he => by cases h; have := ((hall g hg).2 _ he).2.2; omega⟩
    clear b1' kw
    generalize wr s' st.next 1 [y] = s4 at *
    have b4s : ∀ K : St → R, Ev.sto s4 2 (.sc (.ptr (st.next + 1) 0)) (.agg [p, y]) K = K (wr s4 (st.next + 1) 0 [p, y]) := fun K => b4.stoN (n := 2) rfl rfl K
    refine Ru.rs fun P hP => ?_
    simp -implicitDefEqProofs (disch := first | decide | omega) [e1, e2, b3.N (n := 2) rfl, b4s]
    refine Rg.ret (hP _ _ ?_)
    clear hP P b4s
    have kw := b4.kpw kf.wf (i := 0) [p, y]
    have b5 := b4.setN (l' := [p, y]) rfl
    have kf5 := kw.fr kf (fun id h => by cases h; omega) hw
    have hL5 : RepLs (wr s4 (st.next + 1) 0 [p, y]) y L := ⟨hL4.sat.keep kw fun id h he => by cases h; have := hy4 _ he; omega, fun g hg => (hL4.ns g hg).keep kw fun id h he => by cases h; have := ((hall g hg).2 _ he).2.2; omega⟩
    exact Ru.ret (he ▸ hQ _ _ (resP.cellN (n := 1) (id := st.next + 1) (off := 0) (l := [p, y]) e2 (b5.N rfl) ⟨kf5, y, L, rfl, hL5, by omega, fun id h => by have := hy4 id h; omega, fun g hg => ⟨(hall g hg).1, fun id h => by have := ((hall g hg).2 id h).2.2; omega⟩⟩))
  refine Ru.seq (Ru.rs fun P hP => ?_)
  simp -implicitDefEqProofs +contextual (disch := first | decide | omega) [-Bool.not_or, -Bool.not_and, hk.e, e1, e4, b1'.rd 1 _ rfl, lnS_sat hx.sat]
  refine Rg.ret (hP _ _ ?_)
  clear hP P
  refine Ru.cond rfl (fun h => Ru.skip ?_) fun h => Ru.exit ?_
  rotate_left
  · simp only [Then, Out, if_true]
    exact fin _ _ rfl (by simp (disch := first | decide | omega) [hk.e, e1]) (by simp (disch := first | decide | omega) [hk.e, e2]) (by simp (disch := first | decide | omega) [e3])
  clear fin
  simp at h
  simp only [Then, Out]
  have hlt : i < l.length := by omega
  have hgi := List.getElem?_eq_getElem hlt
  have hmem := List.getElem_mem hlt
  generalize l[i] = g at hgi hmem
  obtain ⟨id, o, hix, hc, hsid⟩ := elt1 hx.sat hgi
  have hgl := hlen2 g hmem
  have hns := hx.ns g hmem
  obtain ⟨v6, hcut, hsv, hsat6⟩ := sliceS_sat (show Sat s' g.sl g.ns.length 1 (g.ns.map us) from hns) none (some (min g.ns.length 40)) (by simp) (by simp; omega)
  simp only [Option.getD_none, Option.getD_some, Nat.sub_zero, Nat.zero_mul, List.drop_zero, Nat.mul_one, loOf] at hsat6 hcut
  obtain ⟨v7, s2', ss2, hA, g1, g2, g3, g4⟩ := app_dw (b := 8) (n0 := s'.next) (bit := 32768) (pre := 32766) (al := 0) (lm := 2376) (sm := 0) (hv := 0) (ll := [(2048, id), (256, st.next), (64, id), (8, st.next)]) (ss := []) hf.wf (Sat.nil (st := s') 1) (Grw.nil s2.next 1) hf.next hsat6 (by omega) (by omega) (by decide) (by decide) (by decide) (by decide)
  refine Ru.seq (Ru.block (Ru.rs fun P hP => Rg.ret (hP _ _ ?_)))
  clear hP P
  refine Ru.d1 fun P hP => ?_
  have hmin : ∀ (c : CallK) (r : Ev) (K : V → St → R), h_op4_minmax false [(.c (iv g.ns.length)), (.c (iv 40))] c r s' K = K (iv (min g.ns.length 40 : Nat)) s' := fun c r K => by
    rw [imin2, show min ((g.ns.length : Nat) : Int) 40 = ((min g.ns.length 40 : Nat) : Int) by omega]
  simp -implicitDefEqProofs (disch := first | decide | omega) [hk.e, e1, e3, e4, b1'.rd 1 _ rfl, hix, hc, lnS_sat hns, hmin, hcut, hA]
  have k2 : Fr s' s2' := g3.fr (Fr.refl hf.wf) (fun id h => by cases h) hf.wf
  have hfill : ∀ tm K, fillK tm K [(0, 1, .c (.sc v7))] [zn] = K [v7] := fun tm K => (fill_sc tm K _ 0 v7 [] (by simp)).trans (by rw [fill_nil]; rfl)
  have f3 : Fr s2' (new s2' [v7]) := (Fr.refl k2.wf).new _
  have hs3 : Sat (new s2' [v7]) (.slice s2'.next 0 1 (some 1) 1) 1 1 [v7] := Sat.new rfl fun m h => by cases h; exact Nat.le_refl _
  have k3 := k2.trans f3
  obtain ⟨v9, s4, ss4, hB, r1, r2, r3, r4⟩ := app_dw (b := 24) (n0 := s'.next) (bit := 131072) (pre := 131071) (al := 98304) (lm := 2376) (sm := 32768) (hv := 0) (ll := [(2048, id), (256, st.next), (64, id), (8, st.next)]) (ss := ss2) k3.wf (hL.sat.fr k3) (hG.fr k3) (Nat.le_trans hf.next k3.next) hs3 (by omega) (by omega) (by decide) (by decide) (by decide) (by decide)
  simp -implicitDefEqProofs (disch := first | decide | omega) [buildS_eq, hfill, hB]
  refine Rg.ret (hP _ _ ?_)
  clear hP P
  simp only [Then, Out]
  refine Ru.r1 fun P hP => ?_
  simp -implicitDefEqProofs (disch := first | decide | omega) [e4]
  refine Rg.ret (hP _ _ ?_)
  clear hP P
  have hy : ∀ id, sid y = some id → s2.next ≤ id := hG.sid
  have k4 : Fr s2 s4 := r3.fr (hf.trans k3) hy f2.wf
  have hn9 : sid v9 = some (s2'.next + 1) := by
    rcases r4 with ⟨h, _⟩ | h
    · cases h
    · exact h
  have h49 : s2'.next + 1 < s4.next := r2.lt r3.wf _ hn9
  have hn7 : ∀ id, sid v7 = some id → id = s'.next := fun id hi => by
    rcases g4 with ⟨_, rfl⟩ | h
    · cases hi
    · rw [h] at hi; cases hi; rfl
  have hyl := hG.lt hf.wf
  have hn2 := k2.next
  have hn3 := hf.next
  refine ⟨by repeat first | exact hk | refine Keep.up (by rfl) ?_, i + 1, by omega, k4, by omega, by omega, rfl, v9, ?_, L ++ [⟨g.ns.take 40, v7⟩], ⟨?_, ?_⟩, ?_, ?_, ?_⟩
  · simp (disch := first | decide | omega)
  · rw [List.length_append, List.map_append]; exact r1
  · intro g' hg'
    rcases List.mem_append.1 hg' with hg' | hg'
    · have h5 := (hL.fr k3).ns g' hg'
      exact h5.keep r3 fun id hi he => ((hall g' hg').2 id he).1 hi
    · obtain rfl := List.mem_singleton.1 hg'
      have h5 : Sat s2' v7 (min g.ns.length 40) 1 ((g.ns.take 40).map us) := by
        have e : List.take (min g.ns.length 40) (List.map us g.ns) = (g.ns.take 40).map us := by rw [List.map_take, List.take_eq_take_iff]; simp [Nat.min_comm]
        rw [← e]
        simpa using g1
      have h6 := (h5.fr f3).keep r3 fun id hi he => by have := hn7 id he; have := hyl id hi; omega
      show Sat s4 v7 (g.ns.take 40).length 1 _
      rw [List.length_take, Nat.min_comm]; exact h6
  · rw [List.length_append]; exact r2
  · rw [List.length_append, List.length_singleton]; omega
  · intro g' hg'
    rcases List.mem_append.1 hg' with hg' | hg'
    · refine ⟨(hall g' hg').1, fun id hi => ?_⟩
      have := ((hall g' hg').2 id hi).2
      rw [hn9]
      exact ⟨fun h => by cases h; omega, by omega, this.2⟩
    · obtain rfl := List.mem_singleton.1 hg'
      refine ⟨by simp; omega, fun id hi => ?_⟩
      have := hn7 id hi
      rw [hn9]
      exact ⟨fun h => by cases h; omega, by omega, by omega⟩
end Go.Proofs.YtphindkhkcncdaaDoor.Ev
namespace Go.Proofs.YtphindkhkcncdaaDoor.Ev
set_option linter.unusedSimpArgs false
set_option linter.unusedVariables false
variable {st s t : St} {n i id off : Nat}
/-! numbers; stores -/
@[simp] theorem cnv_u8 (n : Nat) (K : V → R) : cnv .u8 (uv n) K = K (bv (n % 256)) := by
  show intK .u8 (n : Int) K = _
  rw [intK_eq]
  have h : IntKind.u8.wrap (n : Int) = ((n % 256 : Nat) : Int) := by
    unfold IntKind.wrap
    simp [IntKind.bits, IntKind.signed]
  rw [h]; rfl
theorem umin2 (a b : Nat) (c : CallK) (r : Ev) (K : V → St → R) : h_op4_minmax false [(.c (uv a)), (.c (uv b))] c r st K = K (uv (min a b)) st := by
  show K (.sc (.int .u64 (iteB (intLt (b : Int) (a : Int)) (b : Int) (a : Int)))) st = _
  rw [intLt_b]
  by_cases h : b < a
  · rw [decide_eq_true (by omega), iteB_true, Nat.min_eq_right (by omega)]; rfl
  · rw [decide_eq_false (by omega), iteB_false, Nat.min_eq_left (by omega)]; rfl
@[simp] theorem ixA_u (len z : Nat) {x : Nat} (K : V → R) (h' : x < len) : ixA len z (.sc (.ptr id off)) (uv x) K = K (.sc (.ptr id (off + x * z))) := by
  have h1 : Nat.blt x len = true := Nat.ble_eq_true_of_le h'
  show iteB (Nat.blt x len) (seqN (Nat.add off (Nat.mul x z)) fun o => K (.sc (.ptr id o))) (.fail 74) = _
  rw [h1, iteB_true, seqN_eq]; rfl
theorem dS_agg {al lm sm hv : Nat} {ll ss : List (Nat × Nat)} {n0 bit pre m : Nat} {l : List S} (ho : Own st id n) (hm : off + l.length ≤ n) (hl : l.length = m) (K : V → Mk → St → R) (h : okS ⟨al, lm, sm, hv, [], ll, ss⟩ n0 pre id = true) :
    dS n0 ⟨al, lm, sm, hv, [], ll, ss⟩ bit pre st m (.sc (.ptr id off)) (.agg l) K = K undefV ⟨al, lm, sm ||| bit, hv, [], ll, (bit, id) :: ss⟩ (wr st id off l) := by
  subst hl
  show iteB (okS _ n0 pre id) (sto st l.length (.sc (.ptr id off)) (.agg l) (fun st => mkS _ bit id fun mk => K undefV mk st)) (.fail 88) = _
  rw [h, iteB_true, sto_agg _ ho hm]
  show mkS _ bit id _ = _
  rw [mkS_eq]; rfl
/-! the columns -/
def nOf (L : List NsD) : Nat := (L.getD 0 ⟨[], .nils⟩).ns.length
def Shape (L : List NsD) : Prop := 50 ≤ L.length ∧ ∀ g ∈ L, g.ns.length = nOf L
def cv (L : List NsD) (j i : Nat) : Nat := (L.getD j ⟨[], .nils⟩).ns.getD i 0
theorem colHd {y : S} {L : List NsD} (h : RepLs st y L) {j : Nat} (hj : j < L.length) : ∃ id o g, L[j]? = some g ∧ (∀ K, ixs 1 (.sc y) (iv j) K = K (.sc (.ptr id o))) ∧ rd st id o = some g.sl ∧ RepN st g.sl g.ns ∧ sid y = some id := by
  have hgi := List.getElem?_eq_getElem hj
  obtain ⟨id, o, hix, hc, hs⟩ := elt1 h.sat hgi
  exact ⟨id, o, _, hgi, hix, hc, h.ns _ (List.getElem_mem hj), hs⟩
theorem nOf_get {L : List NsD} {g : NsD} (h : L[0]? = some g) : nOf L = g.ns.length := by
  unfold nOf; rw [List.getD_eq_getElem?_getD, h]; rfl
theorem col {y : S} {L : List NsD} (h : RepLs st y L) (hs : Shape L) {j i : Nat} (hj : j < 50) (hi : i < nOf L) :
    ∃ id o id2 o2 x, (∀ K, ixs 1 (.sc y) (iv j) K = K (.sc (.ptr id o))) ∧ rd st id o = some x ∧ (∀ K, ixs 1 (.sc x) (iv i) K = K (.sc (.ptr id2 o2))) ∧ rd st id2 o2 = some (us (cv L j i)) ∧ sid y = some id ∧ sid x = some id2 := by
  obtain ⟨id, o, g, hg, hix, hc, hr, hsd⟩ := colHd h (Nat.lt_of_lt_of_le hj hs.1)
  have hl := hs.2 g (List.mem_of_getElem? hg)
  have hgi := List.getElem?_eq_getElem (show i < g.ns.length by omega)
  obtain ⟨id2, o2, hix2, hc2, hs2⟩ := elt1 (f := us) hr hgi
  refine ⟨id, o, id2, o2, g.sl, hix, hc, hix2, ?_, hsd, hs2⟩
  rw [hc2]
  unfold cv
  rw [show L.getD j ⟨[], .nils⟩ = g by rw [List.getD_eq_getElem?_getD, hg, Option.getD_some], List.getD_eq_getElem?_getD, hgi, Option.getD_some]
/-! the shape -/
theorem lenNe_ok (hw : WfS st) {p y x : S} {L : List NsD} {b : Nat} (hb : Bx st b [p, y]) (h : RepLs st y L) (h0 : 0 < L.length) {a : List Nat} (ha : RepN st x a) :
    Ca (cF F) 10 [.sc x, .sc (.ptr b 0)] st (fun v s => s = st ∧ v = bl (!eqI a.length (nOf L))) := by
  refine Ca.of (hf := cf10) rfl rfl [q0, q1] [.tmp q3] rfl rfl rfl fun Q hQ => ?_
  obtain ⟨id, o, g, hg, hix, hc, hr, _⟩ := colHd h h0
  have hix' : ∀ K, ixs 1 (.sc y) (iv 0) K = K (.sc (.ptr id o)) := hix
  refine Ru.rs fun P hP => Rg.ret (hP _ _ ?_)
  clear hP P
  refine Ru.rs fun P hP => ?_
  simp -implicitDefEqProofs (disch := first | decide | omega) [lnS_sat ha, hb.rd 1 _ rfl, hix', hc, lnS_sat hr]
  refine Rg.ret (hP _ _ (Ru.ret (hQ _ _ (.one rfl ⟨rfl, ?_⟩))))
  rw [nOf_get hg]
  rfl
theorem index_ok (hw : WfS st) {p y : S} {L : List NsD} {b : Nat} (hb : Bx st b [p, y]) (h : RepLs st y L) (h0 : 0 < L.length) (hlen : L.length < 9223372036854775808) :
    Ca (cF F) 14 [.sc y, .sc (capsOf 10 [.ptr b 0])] st (fun v s => s = st ∧ ∃ k : Int, v = iv k ∧ (k < 0 ↔ ∀ g ∈ L, g.ns.length = nOf L)) := by
  refine Ca.of (hf := cf14) rfl rfl [q0, q1] [.tmp q4] rfl rfl rfl fun Q hQ => ?_
  refine Ru.rs fun P hP => Rg.ret (hP _ _ ?_)
  clear hP P
  refine Ru.seq (Ru.rs fun P hP => ?_)
  simp -implicitDefEqProofs (disch := first | decide | omega) [lnS_sat h.sat]
  refine Rg.ret (hP _ _ ?_)
  clear hP P
  refine Ru.at (fun ρ => ρ q0 = .sc y ∧ ρ q1 = .sc (capsOf 10 [.ptr b 0]) ∧ ρ q7 = iv L.length ∧ ρ q8 = iv 0) ⟨rfl, rfl, rfl, rfl⟩ fun ρ0 hE => ?_
  obtain ⟨e0, e1, e7, e8⟩ := hE
  refine Ru.block (Ru.lp [q0, q1, q7] (fun i : Nat => L.length - i) (fun i ρ s => s = st ∧ i ≤ L.length ∧ ρ q8 = iv i ∧ ∀ g ∈ L.take i, g.ns.length = nOf L)
    ⟨0, rfl, Nat.zero_le _, e8, fun g hg => by simp at hg⟩ fun i ρ s hk hI => ?_)
  clear e8
  obtain ⟨hs, hi, e8, hall⟩ := hI
  subst s
  refine Ru.rs fun P hP => ?_
  simp -implicitDefEqProofs (disch := first | decide | omega) [hk.e, e7, e8]
  refine Rg.ret (hP _ _ ?_)
  clear hP P
  refine Ru.seq (Ru.cond rfl (fun h => Ru.skip ?_) fun h => Ru.exit ?_)
  rotate_left
  · simp at h
    simp only [Then, Out, if_true]
    exact Ru.sreg (Rg.ret (Ru.ret (hQ _ _ (.one rfl ⟨rfl, -1, rfl, by rw [List.take_of_length_le (by omega)] at hall; exact ⟨fun _ => hall, fun _ => by omega⟩⟩))))
  simp at h
  simp only [Then, Out]
  have hlt : i < L.length := by omega
  obtain ⟨id, o, g, hg, hix, hc, hr, _⟩ := colHd ‹RepLs st y L› hlt
  refine Ru.seq (Ru.block (Ru.rs fun P hP => ?_))
  simp -implicitDefEqProofs (disch := first | decide | omega) [e8]
  refine Rg.ret (hP _ _ ?_)
  clear hP P
  refine Ru.rs fun P hP => ?_
  have hcv : ∀ (c : CallK) (r : Ev) (K : V → St → R), h_op4_callV (.c (.sc (capsOf 10 [.ptr b 0]))) [.c (.sc g.sl)] c r st K = c 10 [.sc g.sl, .sc (.ptr b 0)] st K := fun c r K => callV_cap 10 rfl [.ptr b 0] (.sc g.sl) c r K
  simp -implicitDefEqProofs (disch := first | decide | omega) [hk.e, e0, e1, hix, hc, hcv]
  refine Rg.call (lenNe_ok hw hb ‹RepLs st y L› h0 hr) fun v s h => ?_
  obtain ⟨rfl, rfl⟩ := h
  refine Rg.ret (hP _ _ (Ru.cond rfl (fun h => ?_) fun h => Ru.skip ?_))
  · simp at h
    refine Ru.sreg (Rg.ret (Ru.ret (hQ _ _ (.one (v := iv i) ?_ ⟨rfl, i, rfl, ⟨fun hh => by omega, fun hh => ?_⟩⟩))))
    · simp (disch := first | decide | omega) [e8]
    · exact absurd (hh g (List.mem_of_getElem? hg)) (by omega)
  clear hP P
  simp at h
  simp only [Then, Out]
  refine Ru.r1 fun P hP => ?_
  simp -implicitDefEqProofs (disch := first | decide | omega) [e8]
  refine Rg.ret (hP _ _ ⟨by repeat first | exact hk | refine Keep.up (by rfl) ?_, i + 1, by omega, rfl, by omega, rfl, fun g' hg' => ?_⟩)
  rw [List.take_add_one, hg, List.mem_append] at hg'
  rcases hg' with hg' | hg'
  · exact hall g' hg'
  · simp at hg'; subst hg'; omega
theorem contains_ok (hw : WfS st) {p y : S} {L : List NsD} {b : Nat} (hb : Bx st b [p, y]) (h : RepLs st y L) (h0 : 0 < L.length) (hlen : L.length < 9223372036854775808) :
    Ca (cF F) 9 [.sc y, .sc (capsOf 10 [.ptr b 0])] st (fun v s => s = st ∧ ∃ e, v = bl e ∧ (e = false ↔ ∀ g ∈ L, g.ns.length = nOf L)) := by
  refine Ca.of (hf := cf9) rfl rfl [q0, q1] [.tmp q4] rfl rfl rfl fun Q hQ => ?_
  refine Ru.rs fun P hP => Rg.ret (hP _ _ ?_)
  clear hP P
  refine Ru.rs fun P hP => ?_
  simp -implicitDefEqProofs (disch := first | decide | omega)
  refine Rg.call (index_ok hw hb h h0 hlen) fun v s h => ?_
  obtain ⟨rfl, k, rfl, hk⟩ := h
  simp -implicitDefEqProofs (disch := first | decide | omega)
  refine Rg.ret (hP _ _ (Ru.ret (hQ _ _ (.one rfl ⟨rfl, leI 0 k, rfl, ?_⟩))))
  rw [← hk]; simp
end Go.Proofs.YtphindkhkcncdaaDoor.Ev
namespace Go.Proofs.YtphindkhkcncdaaDoor.Ev
set_option linter.unusedSimpArgs false
set_option linter.unusedVariables false
variable {st s t : St} {n i id off : Nat} {L : List NsD} {iq im : Nat} {p y : S}
/-! Read, as a law -/
def memS (L : List NsD) : Nat → List Nat
  | 0 => List.replicate 16 0
  | i + 1 => if cv L 11 i = 1 then (memS L i).set (cv L 32 i % 16) (cv L 34 i % 256) else memS L i
theorem memS_len (L : List NsD) : ∀ i, (memS L i).length = 16
  | 0 => rfl
  | i + 1 => by
    unfold memS
    split
    · rw [List.length_set, memS_len L i]
    · exact memS_len L i
abbrev stC (a : Int) (r0 r1 r2 r3 : Nat) (m : List Nat) : List S := is a :: bs r0 :: bs r1 :: bs r2 :: bs r3 :: m.map bs
abbrev rowC (L : List NsD) (i : Nat) : List S := stC (cv L 0 i : Nat) (cv L 1 i % 256) (cv L 2 i % 256) (cv L 3 i % 256) (cv L 4 i % 256) (memS L i)
theorem rowC_len (L : List NsD) (i : Nat) : (rowC L i).length = 21 := by simp [memS_len]
def rowsTo (L : List NsD) (n : Nat) : List S := (List.range n).flatMap (rowC L)
theorem rowsTo_succ (L : List NsD) (n : Nat) : rowsTo L (n + 1) = rowsTo L n ++ rowC L n := by simp [rowsTo, List.range_succ]
theorem rowsTo_len (L : List NsD) (n : Nat) : (rowsTo L n).length = n * 21 := by
  unfold rowsTo; rw [flat_len (rowC_len L), List.length_range]
def badJ (L : List NsD) (i j : Nat) : Prop := 32 < cv L 0 i ∨ ∃ k, k < j ∧ 255 < cv L (1 + k) i
def badR (L : List NsD) (i : Nat) : Prop := badJ L i 4 ∨ (cv L 11 i = 1 ∧ (15 < cv L 32 i ∨ 255 < cv L 34 i))
def ReadR (L : List NsD) (s : St) (v : V) : Prop := ∃ y e, v = .tup [(false, [y]), (false, [is e])] ∧
  ((¬ Shape L ∧ y = .nils ∧ e = 1) ∨ (Shape L ∧ (∃ i, i < nOf L ∧ badR L i) ∧ y = .nils ∧ e = 2) ∨
    (Shape L ∧ (∀ i, i < nOf L → ¬ badR L i) ∧ e = 0 ∧ Sat s y (nOf L) 21 (rowsTo L (nOf L))))
/-- a state that is being built -/
abbrev stP (L : List NsD) (i : Nat) (a : Int) (j : Nat) (m : List Nat) : List S :=
  stC a (if 0 < j then cv L 1 i % 256 else 0) (if 1 < j then cv L 2 i % 256 else 0) (if 2 < j then cv L 3 i % 256 else 0) (if 3 < j then cv L 4 i % 256 else 0) m
theorem stP_set (L : List NsD) (i : Nat) (a : Int) (j : Nat) (m : List Nat) (h : j < 4) : (stP L i a j m).set (1 + j) (bs (cv L (1 + j) i % 256)) = stP L i a (j + 1) m := by
  rcases (show j = 0 ∨ j = 1 ∨ j = 2 ∨ j = 3 by omega) with rfl | rfl | rfl | rfl <;> rfl
abbrev z21 : List S := [is 0, bs 0, bs 0, bs 0, bs 0, bs 0, bs 0, bs 0, bs 0, bs 0, bs 0, bs 0, bs 0, bs 0, bs 0, bs 0, bs 0, bs 0, bs 0, bs 0, bs 0]
abbrev z16 : List S := [bs 0, bs 0, bs 0, bs 0, bs 0, bs 0, bs 0, bs 0, bs 0, bs 0, bs 0, bs 0, bs 0, bs 0, bs 0, bs 0]
theorem fill5 (a : Int) {m : List Nat} (hm : m.length = 16) : setRange (is a :: z21.tail) 5 (m.map bs) = stC a 0 0 0 0 m := by
  match m, hm with
  | [a0, a1, a2, a3, a4, a5, a6, a7, a8, a9, a10, a11, a12, a13, a14, a15], _ => rfl
/-- the memory in the loop over the rows -/
structure RS (st s : St) (L : List NsD) (iq im n i : Nat) (p y : S) : Prop where
  fr : Fr st s
  b1 : Bx s st.next [p, y]
  own : Own s iq (n * 21)
  cells : ∀ k x, (rowsTo L i)[k]? = some x → rd s iq k = some x
  bm : Bx s im ((memS L i).map bs)
  o1 : st.next < iq
  o2 : iq < im
theorem RS.go (h : RS st s L iq im n i p y) (k : Fr s t) : RS st t L iq im n i p y :=
  ⟨h.fr.trans k, h.b1.fr k, h.own.fr k, fun j x hx => k.rd (h.cells j x hx), h.bm.fr k, h.o1, h.o2⟩
theorem RS.kp {o : Nat} (h : RS st s L iq im n i p y) (hw : WfS st) (k : Kp (some o) s t) (ho : im < o) : RS st t L iq im n i p y :=
  have h1 := h.o1
  have h2 := h.o2
  ⟨k.fr h.fr (fun id he => by cases he; omega) hw, h.b1.kp k (ne_some (by omega)), h.own.kp k (ne_some (by omega)), fun j x hx => k.rd (ne_some (by omega)) (h.cells j x hx), h.bm.kp k (ne_some (by omega)), h1, h2⟩
theorem read_ok (hw : WfS st) {p y : S} {L : List NsD} (hL : RepLs st y L) (hlen : L.length ≤ 60) (h40 : ∀ g ∈ L, g.ns.length ≤ 40) :
    Ca (cF F) 5 [.agg [p, y]] st (fun v s => Fr st s ∧ ReadR L s v) := by
  refine Ca.of (hf := cf5) rfl rfl [q0] [.tmp q2, .tmp q3] rfl rfl rfl fun Q hQ => ?_
  have f1 : Fr st (new st [p, y]) := (Fr.refl hw).new _
  have b1 : Bx (new st [p, y]) st.next [p, y] := Bx.new
  refine Ru.rs fun P hP => ?_
  simp -implicitDefEqProofs (disch := first | decide | omega)
  refine Rg.ret (hP _ _ ?_)
  clear hP P
  have hs1 : st.next < (new st [p, y]).next := by simp
  generalize new st [p, y] = s1 at *
  have bad : ∀ (Q' : X → Ev → St → Prop) (ρ : Ev) (t : St) (V0 : V) (e : Int), Q' .ret = Q .ret → V0 = iv e → Fr st t → (∀ s, ReadR L s (.tup [(false, [.nils]), (false, [is e])])) → Ru (cF F) (.seq (.reg [q2, q3] fun c r s K => K [(.sc zn), V0] s) .ret) ρ t Q' := fun Q' ρ t V0 e he hV k hn => by
    subst hV
    exact Ru.sreg (Rg.ret (Ru.ret (he ▸ hQ _ _ (.two rfl rfl ⟨k, hn _⟩))))
  have hy1 := hL.fr f1
  refine Ru.seq (Ru.rs fun P hP => ?_)
  by_cases h50 : L.length < 50
  · simp -implicitDefEqProofs (disch := first | decide | omega) [b1.rd 1 _ rfl, lnS_sat hy1.sat]
    refine Rg.ret (hP _ _ (Ru.cond rfl (fun _ => bad _ _ _ _ 1 rfl rfl f1 fun s => ⟨_, _, rfl, .inl ⟨fun hh => by have := hh.1; omega, rfl, rfl⟩⟩) fun h => by cases h))
  have hmk : ∀ (a : S) (cl : CallK) (r : Ev) (K : V → St → R), h_op4_makeFunc 10 [.c (.sc a)] cl r s1 K = K (.sc (capsOf 10 [a])) s1 := fun a cl r K => rfl
  simp -implicitDefEqProofs (disch := first | decide | omega) [b1.rd 1 _ rfl, lnS_sat hy1.sat, hmk]
  refine Rg.call (contains_ok f1.wf b1 hy1 (by omega) (by omega)) fun v s hv => ?_
  obtain ⟨hs, e, rfl, he⟩ := hv
  subst s
  refine Rg.ret (hP _ _ ?_)
  clear hP P hmk
  refine Ru.cond rfl (fun hh => bad _ _ _ _ 1 rfl rfl f1 fun s => ⟨_, _, rfl, .inl ⟨fun h2 => ?_, rfl, rfl⟩⟩) fun hh => Ru.skip ?_
  · rw [he.2 h2.2] at hh; cases hh
  have hsh : Shape L := ⟨by omega, he.1 hh⟩
  clear he hh h50
  simp only [Then, Out]
  obtain ⟨i0, o0, g0, hg0, hx0, hc0, hr0, _⟩ := colHd hy1 (j := 0) (by have := hsh.1; omega)
  have hx0' : ∀ K, ixs 1 (.sc y) (iv 0) K = K (.sc (.ptr i0 o0)) := hx0
  have hn0 : g0.ns.length = nOf L := (nOf_get hg0).symm
  have hn40 : nOf L ≤ 40 := hn0 ▸ h40 g0 (List.mem_of_getElem? hg0)
  refine Ru.rs fun P hP => ?_
  have hxM : ∀ (cl : CallK) (ρ : Ev) (K : V → St → R), xM 21 32 z21 (iv (nOf L)) (iv (nOf L)) cl ρ s1 K = K (.sc (.slice s1.next 0 (nOf L) (some (nOf L)) 21)) (mkz s1 (nOf L) 21 z21) := fun cl ρ K => xM_eq 21 32 (nOf L) (nOf L) _ cl ρ K (Nat.le_refl _) (by omega) (by omega)
  simp -implicitDefEqProofs (disch := first | decide | omega) [b1.rd 1 _ rfl, hx0', hc0, lnS_sat hr0, hn0, hxM]
  refine Rg.ret (hP _ _ ?_)
  clear hP P hxM hr0 hx0' hx0 hc0
  have kmk := fr_mkz (n := nOf L) (Fr.refl f1.wf) z21 21
  have omk : Own (mkz s1 (nOf L) 21 z21) s1.next (nOf L * 21) := own_mkz _ _
  have hnx : (mkz s1 (nOf L) 21 z21).next = s1.next + 1 := rfl
  have b1b := b1.fr kmk
  have f2 := f1.trans kmk
  generalize mkz s1 (nOf L) 21 z21 = s2 at *
  refine Ru.rs fun P hP => ?_
  simp -implicitDefEqProofs (disch := first | decide | omega)
  refine Rg.ret (hP _ _ ?_)
  clear hP P
  have kn := (Fr.refl f2.wf).new z16
  have J0 : RS st (new s2 z16) L s1.next s2.next (nOf L) 0 p y := ⟨f2.trans kn, b1b.fr kn, omk.fr kn, fun k x hx => by simp [rowsTo] at hx, Bx.new, hs1, by omega⟩
  generalize hs3 : new s2 z16 = s3 at *
  have h3 : s2.next < s3.next := by rw [← hs3]; simp
  clear kmk omk b1b f2 kn hs3 b1 hy1
  generalize s1.next = iq at *
  generalize s2.next = im at *
  refine Ru.seq (Ru.rs fun P hP => ?_)
  simp -implicitDefEqProofs (disch := first | decide | omega)
  refine Rg.ret (hP _ _ ?_)
  clear hP P
  refine Ru.at (fun ρ => ρ q1 = .sc (.ptr st.next 0) ∧ ρ q4 = .sc (.slice iq 0 (nOf L) (some (nOf L)) 21) ∧ ρ q5 = .sc (.ptr im 0) ∧ ρ q30 = iv (nOf L) ∧ ρ q31 = iv 0) ⟨rfl, rfl, rfl, rfl, rfl⟩ fun ρ0 hE => ?_
  obtain ⟨e1, e4, e5, e30, e31⟩ := hE
  refine Ru.block (Ru.lp [q1, q4, q5, q30] (fun i : Nat => nOf L - i) (fun i ρ s => i ≤ nOf L ∧ ρ q31 = iv i ∧ (∀ k, k < i → ¬ badR L k) ∧ im < s.next ∧ RS st s L iq im (nOf L) i p y)
    ⟨0, Nat.zero_le _, e31, fun k hk => by omega, h3, J0⟩ fun i ρ s hk hI => ?_)
  clear e31 J0 h3
  obtain ⟨hi, e31, hgood, him, J⟩ := hI
  refine Ru.rs fun P hP => ?_
  simp -implicitDefEqProofs (disch := first | decide | omega) [hk.e, e30, e31]
  refine Rg.ret (hP _ _ ?_)
  clear hP P
  refine Ru.seq (Ru.cond rfl (fun h => Ru.skip ?_) fun h => Ru.exit ?_)
  rotate_left
  · simp at h
    have hin : i = nOf L := by omega
    subst hin
    simp only [Then, Out, if_true]
    refine Ru.sreg (Rg.ret (Ru.ret (hQ _ _ (.two (a := .slice iq 0 (nOf L) (some (nOf L)) 21) ?_ rfl ⟨J.fr, _, 0, rfl, .inr (.inr ⟨hsh, hgood, rfl, ?_⟩)⟩))))
    · simp (disch := first | decide | omega) [hk.e, e4]
    · exact sat_of_rd J.own (rowsTo_len L _) (fun m hm => by cases hm; exact Nat.le_refl _) fun k x hx => by rw [Nat.zero_add]; exact J.cells k x hx
  simp at h
  simp only [Then, Out]
  have hlt : i < nOf L := by omega
  refine Ru.seq (Ru.block (Ru.rs fun P hP => ?_))
  simp -implicitDefEqProofs (disch := first | decide | omega) [e31]
  refine Rg.ret (hP _ _ ?_)
  clear hP P
  refine Ru.at (fun ρ' => Keep [q1, q4, q5, q30] ρ' ρ0 ∧ ρ' q6 = iv i ∧ ρ' q31 = iv i) ⟨by repeat first | exact hk | refine Keep.up (by rfl) ?_, rfl, by simp (disch := first | decide | omega) [e31]⟩ fun ρ1 hE => ?_
  clear hk e31 ρ
  obtain ⟨hk, e6, e31⟩ := hE
  -- the state's place and memory
  obtain ⟨ia, oa, ia2, oa2, xa, hxa, hca, hxa2, hca2, hsa, hsa2⟩ := col (hL.fr J.fr) hsh (j := 0) (by omega) hlt
  have hxa' : ∀ K, ixs 1 (.sc y) (iv 0) K = K (.sc (.ptr ia oa)) := hxa
  refine Ru.ds fun P hP => ?_
  have hml : ((memS L i).map bs).length = 16 := by rw [List.length_map, memS_len]
  have hfill : ∀ tm K, fillK tm K [(0, 1, .c (iv (min (cv L 0 i) 33 : Nat))), (5, 16, .c (.agg ((memS L i).map bs)))] z21 = K (stC (min (cv L 0 i) 33 : Nat) 0 0 0 0 (memS L i)) := fun tm K => by
    rw [fill_sc tm K _ 0 _ _ (by simp), fill_agg tm K _ 5 _ 16 [] hml (by simp [setRange]), fill_nil]
    exact congrArg K (fill5 _ (memS_len L i))
  have ls : (stC (min (cv L 0 i) 33 : Nat) 0 0 0 0 (memS L i)).length = 21 := by simp [memS_len]
  have ow : Own (new s z21) s.next 21 := Own.new (l := z21)
  have hdS := fun (al lm sm hv : Nat) (ll ss : List (Nat × Nat)) (n0 bit pre : Nat) (K : V → Mk → St → R) (h : okS ⟨al, lm, sm, hv, [], ll, ss⟩ n0 pre s.next = true) => dS_agg (st := new s z21) (bit := bit) (off := 0) (m := 21) (l := stC (min (cv L 0 i) 33 : Nat) 0 0 0 0 (memS L i)) ow (by rw [ls]; omega) ls K h
  simp -implicitDefEqProofs (disch := first | decide | omega | (apply okS_t; decide; (simp (decide := true) <;> omega))) [hk.e, e1, e5, e6, J.b1.rd 1 _ rfl, hxa', hca, hxa2, hca2, umin2, J.bm.N hml, build_eq, hfill, hdS]
  refine Rg.ret (hP _ _ ?_)
  clear hP P hfill hdS ow hsa hsa2 hxa hxa' hca hxa2 hca2
  have kf := fr_mk J.fr.wf z21 (stC (min (cv L 0 i) 33 : Nat) 0 0 0 0 (memS L i))
  have b7 : Bx (wr (new s z21) s.next 0 (stC (min (cv L 0 i) 33 : Nat) 0 0 0 0 (memS L i))) s.next (stP L i (min (cv L 0 i) 33 : Nat) 0 (memS L i)) := Bx.mk' (by rw [ls]; rfl)
  have J1 := J.go kf
  have hn7 : s.next < (wr (new s z21) s.next 0 (stC (min (cv L 0 i) 33 : Nat) 0 0 0 0 (memS L i))).next := b7.lt
  clear J kf
  generalize wr (new s z21) s.next 0 (stC (min (cv L 0 i) 33 : Nat) 0 0 0 0 (memS L i)) = s5 at *
  generalize s.next = i7 at *
  refine Ru.rs fun P hP => ?_
  simp -implicitDefEqProofs (disch := first | decide | omega) [b7.rd 0 _ rfl]
  refine Rg.ret (hP _ _ ?_)
  clear hP P
  refine Ru.seq (Ru.rs fun P hP => Rg.ret (hP _ _ ?_))
  clear hP P
  refine Ru.at (fun ρ' => Keep [q1, q4, q5, q30] ρ' ρ0 ∧ ρ' q6 = iv i ∧ ρ' q31 = iv i ∧ ρ' q7 = .sc (.ptr i7 0) ∧ ρ' q8 = bl (ltI 32 (min (cv L 0 i) 33 : Nat)) ∧ ρ' q48 = iv 0) ⟨by repeat first | exact hk | refine Keep.up (by rfl) ?_, by simp (disch := first | decide | omega) [e6], by simp (disch := first | decide | omega) [e31], rfl, rfl, rfl⟩ fun ρ2 hE => ?_
  clear hk e6 e31 ρ1
  obtain ⟨hk, e6, e31, e7, e8, e48⟩ := hE
  refine Ru.block (Ru.lp [q1, q4, q5, q30, q6, q31, q7] (fun j : Nat => 4 - j) (fun j ρ s => j ≤ 4 ∧ ρ q48 = iv j ∧ (∃ b, ρ q8 = bl b ∧ (b = true ↔ badJ L i j)) ∧ i7 < s.next ∧ RS st s L iq im (nOf L) i p y ∧ Bx s i7 (stP L i (min (cv L 0 i) 33 : Nat) j (memS L i)))
    ⟨0, Nat.zero_le _, e48, ⟨_, e8, by simp [badJ]; omega⟩, hn7, J1, b7⟩ fun j ρ s hk2 hI => ?_)
  clear e8 e48 J1 hn7 b7
  obtain ⟨hj4, e48, ⟨b, e8, hb⟩, hn7, J, b7⟩ := hI
  refine Ru.rs fun P hP => ?_
  simp -implicitDefEqProofs (disch := first | decide | omega) [hk2.e, e48]
  refine Rg.ret (hP _ _ ?_)
  clear hP P
  refine Ru.seq (Ru.cond rfl (fun h => Ru.skip ?_) fun h => Ru.exit ?_)
  · simp at h
    simp only [Then, Out]
    have hlj : j < 4 := by omega
    obtain ⟨ia, oa, ia2, oa2, xa, hxa, hca, hxa2, hca2, hsa, hsa2⟩ := col (hL.fr J.fr) hsh (j := 1 + j) (by omega) hlt
    have hxa' : ∀ K, ixs 1 (.sc y) (iv (1 + (j : Int))) K = K (.sc (.ptr ia oa)) := by
      have e : ((1 + j : Nat) : Int) = 1 + (j : Int) := by omega
      rw [e] at hxa; exact hxa
    refine Ru.seq (Ru.block (Ru.rs fun P hP => ?_))
    simp -implicitDefEqProofs (disch := first | decide | omega) [e48]
    refine Rg.ret (hP _ _ ?_)
    clear hP P
    refine Ru.rs fun P hP => ?_
    simp -implicitDefEqProofs (disch := first | decide | omega) [hk2.e, hk.e, e1, e6, J.b1.rd 1 _ rfl, hxa', hca, hxa2, hca2]
    refine Rg.ret (hP _ _ ?_)
    clear hP P
    refine Ru.rs fun P hP => ?_
    simp -implicitDefEqProofs +contextual (disch := first | decide | omega) [-Bool.not_or, -Bool.not_and, e8]
    refine Rg.ret (hP _ _ ?_)
    clear hP P
    refine Ru.r1 fun P hP => ?_
    have ls : (stP L i (min (cv L 0 i) 33 : Nat) j (memS L i)).length = 21 := by simp [memS_len]
    simp -implicitDefEqProofs (disch := first | decide | omega) [hk2.e, hk.e, e7, b7.sto (i := 1 + j) (by rw [ls]; omega)]
    refine Rg.ret (hP _ _ ?_)
    clear hP P
    have kw := b7.kpw J.fr.wf (i := 1 + j) [bs (cv L (1 + j) i % 256)]
    have b7' := b7.set (i := 1 + j) (by rw [ls]; omega) (bs (cv L (1 + j) i % 256))
    rw [stP_set L i _ j _ hlj] at b7'
    have J' := J.kp hw kw him
    simp only [Then, Out]
    refine Ru.r1 fun P hP => ?_
    simp -implicitDefEqProofs (disch := first | decide | omega) [e48]
    refine Rg.ret (hP _ _ ⟨by repeat first | exact hk2 | refine Keep.up (by rfl) ?_, j + 1, by omega, by omega, rfl, ⟨_, rfl, ?_⟩, by rw [wr_next]; exact hn7, J', b7'⟩)
    rw [Bool.or_eq_true, hb]
    simp only [ltN_t, badJ]
    constructor
    · rintro ((h | ⟨k, h1, h2⟩) | h)
      · exact .inl h
      · exact .inr ⟨k, by omega, h2⟩
      · exact .inr ⟨j, by omega, h⟩
    · rintro (h | ⟨k, h1, h2⟩)
      · exact .inl (.inl h)
      · rcases (show k < j ∨ k = j by omega) with h3 | rfl
        · exact .inl (.inr ⟨k, h3, h2⟩)
        · exact .inr h2
  simp at h
  obtain rfl : j = 4 := by omega
  clear hj4 h e48
  simp only [Then, Out, if_true]
  have hkk : Keep [q1, q4, q5, q30] ρ ρ0 := .via (by rfl) hk2 hk
  refine Ru.at (fun ρ' => Keep [q1, q4, q5, q30] ρ' ρ0 ∧ ρ' q6 = iv i ∧ ρ' q31 = iv i ∧ ρ' q7 = .sc (.ptr i7 0) ∧ ρ' q8 = bl b) ⟨by repeat first | exact hkk | refine Keep.up (by rfl) ?_, by simp (disch := first | decide | omega) [hk2.e, e6], by simp (disch := first | decide | omega) [hk2.e, e31], by simp (disch := first | decide | omega) [hk2.e, e7], by simp (disch := first | decide | omega) [e8]⟩ fun ρ3 hE => ?_
  clear hkk hk2 hk e6 e31 e7 e8 ρ ρ2
  obtain ⟨hk, e6, e31, e7, e8⟩ := hE
  obtain ⟨ia, oa, ia2, oa2, xa, hxa, hca, hxa2, hca2, hsa, hsa2⟩ := col (hL.fr J.fr) hsh (j := 32) (by omega) hlt
  obtain ⟨ib, ob, ib2, ob2, xb, hxb, hcb, hxb2, hcb2, hsb, hsb2⟩ := col (hL.fr J.fr) hsh (j := 34) (by omega) hlt
  obtain ⟨ic, oc, ic2, oc2, xc, hxc, hcc, hxc2, hcc2, hsc, hsc2⟩ := col (hL.fr J.fr) hsh (j := 11) (by omega) hlt
  have hxa' : ∀ K, ixs 1 (.sc y) (iv 32) K = K (.sc (.ptr ia oa)) := hxa
  have hxb' : ∀ K, ixs 1 (.sc y) (iv 34) K = K (.sc (.ptr ib ob)) := hxb
  have hxc' : ∀ K, ixs 1 (.sc y) (iv 11) K = K (.sc (.ptr ic oc)) := hxc
  refine Ru.seq (Ru.ds fun P hP => ?_)
  simp -implicitDefEqProofs (disch := first | decide | omega) [hk.e, e1, e6, J.b1.rd 1 _ rfl, hxa', hca, hxa2, hca2, hxb', hcb, hxb2, hcb2]
  refine Rg.ret (hP _ _ ?_)
  clear hP P
  refine Ru.rs fun P hP => ?_
  simp -implicitDefEqProofs (disch := first | decide | omega) [hk.e, e1, e6, J.b1.rd 1 _ rfl, hxc', hcc, hxc2, hcc2]
  refine Rg.ret (hP _ _ ?_)
  clear hP P
  -- what comes behind: the answer, or the row is stored
  have fin : ∀ (ρ' : Ev) (t : St) (b' : Bool) (Q' : X → Ev → St → Prop), Q' .ret = Q .ret → Keep [q1, q4, q5, q30] ρ' ρ0 → ρ' q6 = iv i → ρ' q31 = iv i → ρ' q7 = .sc (.ptr i7 0) → ρ' q8 = bl b' → (b' = true ↔ badR L i) → i7 < t.next → Fr st t → Bx t st.next [p, y] → Own t iq (nOf L * 21) → (∀ k x, (rowsTo L i)[k]? = some x → rd t iq k = some x) → Bx t im ((memS L (i + 1)).map bs) → Bx t i7 (stP L i (min (cv L 0 i) 33 : Nat) 4 (memS L i)) →
    (∀ ρ'' s'', Keep [q1, q4, q5, q30] ρ'' ρ0 → ρ'' q31 = iv i → ¬ badR L i → im < s''.next → RS st s'' L iq im (nOf L) (i + 1) p y → Q' .normal ρ'' s'') →
    Ru (cF F) (.seq (.seq (.reg [q107] fun c r s K => K [(r q8)] s)
 (.cond (.t q107) (.seq (.reg [q2, q3] fun c r s K => K [(.sc zn), I2] s)
 .ret)
 .skip))
 (.reg [] fun c r s K => lN s n21 (r q7) fun v0 => ixs n21 (r q4) (r q6) fun v1 => sto s n21 v1 v0 fun s => K [] s)) ρ' t Q' := by
    intro ρ' t b' Q' he hk e6 e31 e7 e8 hb' hnt kf b1 ow hcl bm b7 hfin
    refine Ru.seq (Ru.rs fun P hP => ?_)
    simp -implicitDefEqProofs (disch := first | decide | omega) [e8]
    refine Rg.ret (hP _ _ (Ru.cond rfl (fun hh => ?_) fun hh => Ru.skip ?_))
    · exact bad _ _ _ _ 2 he rfl kf fun s => ⟨_, _, rfl, .inr (.inl ⟨hsh, ⟨i, hlt, hb'.1 hh⟩, rfl, rfl⟩)⟩
    clear hP P
    have hnb : ¬ badR L i := fun h2 => by rw [hb'.2 h2] at hh; cases hh
    have hrow : stP L i (min (cv L 0 i) 33 : Nat) 4 (memS L i) = rowC L i := by
      have h32 : cv L 0 i ≤ 32 := by
        apply Nat.le_of_not_lt
        exact fun h => hnb (.inl (.inl h))
      rw [show min (cv L 0 i) 33 = cv L 0 i by omega]
      rfl
    rw [hrow] at b7
    have hsto : ∀ K : St → R, Ev.sto t 21 (.sc (.ptr iq (i * 21))) (.agg (rowC L i)) K = K (wr t iq (i * 21) (rowC L i)) := fun K => by
      have := sto_agg (l := rowC L i) (off := i * 21) K ow (by rw [rowC_len]; omega)
      rw [rowC_len] at this
      exact this
    simp only [Then, Out]
    refine Ru.r1 fun P hP => ?_
    simp -implicitDefEqProofs (disch := first | decide | omega) [hk.e, e4, e6, e7, b7.N (rowC_len L i), hsto]
    have oo1 := J.o1
    have oo2 := J.o2
    have kw := kp_wr (id := iq) (off := i * 21) (l := rowC L i) kf.wf (by omega)
    refine Rg.ret (hP _ _ (hfin _ _ (by repeat first | exact hk | refine Keep.up (by rfl) ?_) (by simp (disch := first | decide | omega) [e31]) hnb (by rw [wr_next]; omega) ⟨kw.fr kf (fun id h => by cases h; omega) hw, b1.kp kw (ne_some (by omega)), ow.wr, fun k x hx => ?_, bm.kp kw (ne_some (by omega)), oo1, oo2⟩))
    rw [rd_wr ow (by rw [rowC_len]; omega)]
    rw [rowsTo_succ] at hx
    rw [rowC_len]
    by_cases hk2 : k < i * 21
    · rw [List.getElem?_append_left (by rw [rowsTo_len]; exact hk2)] at hx
      rw [if_neg (by omega)]
      exact hcl k x hx
    · rw [List.getElem?_append_right (by rw [rowsTo_len]; omega), rowsTo_len] at hx
      have := (List.getElem?_eq_some_iff.1 hx).1
      rw [rowC_len] at this
      rw [if_pos ⟨rfl, by omega, by omega⟩]
      exact hx
  have b7 := b7
  have hlast : ∀ ρ'' s'', Keep [q1, q4, q5, q30] ρ'' ρ0 → ρ'' q31 = iv i → ¬ badR L i → im < s''.next → RS st s'' L iq im (nOf L) (i + 1) p y →
      Out n1 (Then (fun ρ s => Ru (cF F) (.reg [q31] fun c r s K => binK .add (r q31) I1 fun v0 => K [v0] s) ρ s (Then (fun ρ'' s => Keep [q1, q4, q5, q30] ρ'' ρ0 ∧ ∃ a', nOf L - a' < nOf L - i ∧ a' ≤ nOf L ∧ ρ'' q31 = iv a' ∧ (∀ k, k < a' → ¬ badR L k) ∧ im < s.next ∧ RS st s L iq im (nOf L) a' p y) (Out n0 (Then (fun ρ s => Ru (cF F) (.seq (.reg [q2, q3] fun c r s K => K [(r q4), I0] s) .ret) ρ s Q) Q)))) (Out n0 (Then (fun ρ s => Ru (cF F) (.seq (.reg [q2, q3] fun c r s K => K [(r q4), I0] s) .ret) ρ s Q) Q))) X.normal ρ'' s'' := fun ρ'' s'' hk e31 hnb hn J => by
    simp only [Then, Out]
    refine Ru.r1 fun P hP => ?_
    simp -implicitDefEqProofs (disch := first | decide | omega) [e31]
    refine Rg.ret (hP _ _ ⟨by repeat first | exact hk | refine Keep.up (by rfl) ?_, i + 1, by omega, by omega, rfl, fun k hk => ?_, hn, J⟩)
    rcases (show k < i ∨ k = i by omega) with h | rfl
    · exact hgood k h
    · exact hnb
  have hbR : badR L i ↔ badJ L i 4 ∨ (cv L 11 i = 1 ∧ (15 < cv L 32 i ∨ 255 < cv L 34 i)) := Iff.rfl
  refine Ru.cond rfl (fun hh => ?_) fun hh => Ru.skip ?_
  · simp at hh
    refine Ru.rs fun P hP => ?_
    simp -implicitDefEqProofs +contextual (disch := first | decide | omega) [-Bool.not_or, -Bool.not_and, e8]
    refine Rg.ret (hP _ _ ?_)
    clear hP P
    refine Ru.r1 fun P hP => ?_
    simp -implicitDefEqProofs (disch := first | decide | omega) [hk.e, e5, J.bm.sto (i := cv L 32 i % 16) (by rw [hml]; omega)]
    refine Rg.ret (hP _ _ ?_)
    clear hP P
    have kw := J.bm.kpw J.fr.wf (i := cv L 32 i % 16) [bs (cv L 34 i % 256)]
    have bm' := J.bm.set (i := cv L 32 i % 16) (by rw [hml]; omega) (bs (cv L 34 i % 256))
    have hms : ((memS L i).map bs).set (cv L 32 i % 16) (bs (cv L 34 i % 256)) = (memS L (i + 1)).map bs := by
      rw [← List.map_set]; congr 1; rw [memS, if_pos hh]
    rw [hms] at bm'
    have o1 := J.o1
    have o2 := J.o2
    simp only [Then, Out]
    refine fin _ _ _ _ rfl (by repeat first | exact hk | refine Keep.up (by rfl) ?_) (by simp (disch := first | decide | omega) [e6]) (by simp (disch := first | decide | omega) [e31]) (by simp (disch := first | decide | omega) [e7]) rfl ?_ (by rw [wr_next]; exact hn7) (kw.fr J.fr (fun id h => by cases h; omega) hw) (J.b1.kp kw (ne_some (by omega))) (J.own.kp kw (ne_some (by omega))) (fun k x hx => kw.rd (ne_some (by omega)) (J.cells k x hx)) bm' (b7.kp kw (ne_some (by omega))) hlast
    rw [Bool.or_eq_true, Bool.or_eq_true, hb, hbR]
    simp [hh]
    rw [or_assoc]
    exact Iff.rfl
  · simp at hh
    simp only [Then, Out]
    have hm : memS L (i + 1) = memS L i := by rw [memS, if_neg hh]
    refine fin _ _ _ _ rfl (by repeat first | exact hk | refine Keep.up (by rfl) ?_) (by simp (disch := first | decide | omega) [e6]) (by simp (disch := first | decide | omega) [e31]) (by simp (disch := first | decide | omega) [e7]) (by simp (disch := first | decide | omega) [e8]; rfl) ?_ hn7 J.fr J.b1 J.own J.cells (by rw [hm]; exact J.bm) b7 hlast
    rw [hb, hbR]
    simp [hh]
end Go.Proofs.YtphindkhkcncdaaDoor.Ev
