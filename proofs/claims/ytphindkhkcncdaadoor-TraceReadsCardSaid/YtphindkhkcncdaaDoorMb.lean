/- What the listed package variables hold, and the evaluator's runs, by the kernel; no conditions. -/
import Derived.Test.YtphindkhkcncdaaDoorMa
namespace Go.Proofs.YtphindkhkcncdaaDoor.Ev
set_option linter.unusedSimpArgs false
set_option linter.unusedVariables false
variable {st s t : St} {n i id off : Nat} {L : List NsD} {iq im : Nat} {p y : S}
theorem setRange_all : ∀ (l x : List S), x.length = l.length → setRange l 0 x = x
  | [], [], _ => rfl
  | [], _ :: _, h => by cases h
  | _ :: _, [], h => by cases h
  | _ :: l, v :: x, h => by rw [setRange, setRange_all l x (by simpa using h)]
/-- the memory in the reference's loop over the rows -/
structure RF' (st s : St) (L : List NsD) (im i a : Nat) (p y z : S) : Prop where
  fr : Fr st s
  b1 : Bx s st.next [p, y]
  bm : Bx s im ((memS L i).map bs)
  sat : Sat s z i 21 (rowsTo L i)
  grw : Grw a s z i 21
  o1 : st.next < im
  o2 : im < a
theorem refRead_ok (hw : WfS st) {p y : S} {L : List NsD} (hL : RepLs st y L) (hlen : L.length ≤ 60) (h40 : ∀ g ∈ L, g.ns.length ≤ 40) :
    Ca (cF F) 6 [.agg [p, y]] st (fun v s => Fr st s ∧ ReadR L s v) := by
  refine Ca.of (hf := cf6) rfl rfl [q0] [.tmp q2, .tmp q3] rfl rfl rfl fun Q hQ => ?_
  have f1 : Fr st (new st [p, y]) := (Fr.refl hw).new _
  have b1 : Bx (new st [p, y]) st.next [p, y] := Bx.new
  refine Ru.rs fun P hP => ?_
  simp -implicitDefEqProofs (disch := first | decide | omega)
  refine Rg.ret (hP _ _ ?_)
  clear hP P
  have hs1 : st.next < (new st [p, y]).next := by simp
  generalize new st [p, y] = s1 at *
  have bad : ∀ (Q' : X → Ev → St → Prop) (ρ : Ev) (t : St) (V0 : V) (e : Int), Q' .ret = Q .ret → V0 = iv e → Fr st t → (∀ s, ReadR L s (.tup [(false, [.nils]), (false, [is e])])) → Ru (cF F) (.seq (.reg [q2, q3] fun c r s K => K [(.sc zn), V0] s) .ret) ρ t Q' := fun Q' ρ t V0 e he hV k hn => by
    subst hV
    exact Ru.sreg (Rg.ret (Ru.ret (he ▸ hQ _ _ (.two rfl rfl ⟨k, hn _⟩))))
  have hy1 := hL.fr f1
  refine Ru.seq (Ru.rs fun P hP => ?_)
  simp -implicitDefEqProofs (disch := first | decide | omega) [b1.rd 1 _ rfl, lnS_sat hy1.sat]
  refine Rg.ret (hP _ _ ?_)
  clear hP P
  refine Ru.cond rfl (fun hh => bad _ _ _ _ 1 rfl rfl f1 fun s => ⟨_, _, rfl, .inl ⟨fun h2 => ?_, rfl, rfl⟩⟩) fun hh => Ru.skip ?_
  · simp at hh; have := h2.1; omega
  simp at hh
  have h50 : 50 ≤ L.length := by omega
  clear hh
  simp only [Then, Out]
  obtain ⟨i0, o0, g0, hg0, hx0, hc0, hr0, _⟩ := colHd hy1 (j := 0) (by omega)
  have hx0' : ∀ K, ixs 1 (.sc y) (iv 0) K = K (.sc (.ptr i0 o0)) := hx0
  have hn0 : g0.ns.length = nOf L := (nOf_get hg0).symm
  have hn40 : nOf L ≤ 40 := hn0 ▸ h40 g0 (List.mem_of_getElem? hg0)
  refine Ru.seq (Ru.rs fun P hP => Rg.ret (hP _ _ ?_))
  clear hP P
  refine Ru.at (fun ρ => ρ q1 = .sc (.ptr st.next 0) ∧ ρ q4 = iv 0) ⟨rfl, rfl⟩ fun ρ0 hE => ?_
  obtain ⟨e1, e4⟩ := hE
  refine Ru.block (Ru.lp [q1] (fun i : Nat => L.length - i) (fun i ρ s => s = s1 ∧ i ≤ L.length ∧ ρ q4 = iv i ∧ ∀ g ∈ L.take i, g.ns.length = nOf L)
    ⟨0, rfl, Nat.zero_le _, e4, fun g hg => by simp at hg⟩ fun i ρ s hk hI => ?_)
  clear e4
  obtain ⟨hs, hi, e4, hall⟩ := hI
  subst s
  refine Ru.seq (Ru.rs fun P hP => ?_)
  simp -implicitDefEqProofs (disch := first | decide | omega) [hk.e, e1, e4, b1.rd 1 _ rfl, lnS_sat hy1.sat]
  refine Rg.ret (hP _ _ ?_)
  clear hP P
  refine Ru.cond rfl (fun h => Ru.skip ?_) fun h => Ru.exit ?_
  · simp at h
    simp only [Then, Out]
    obtain ⟨id, o, g, hg, hix, hc, hr, _⟩ := colHd hy1 (show i < L.length by omega)
    refine Ru.seq (Ru.block (Ru.ds fun P hP => ?_))
    simp -implicitDefEqProofs (disch := first | decide | omega) [hk.e, e1, e4, b1.rd 1 _ rfl, hix, hc, lnS_sat hr, hx0', hc0, lnS_sat hr0, hn0]
    refine Rg.ret (hP _ _ ?_)
    clear hP P
    refine Ru.cond rfl (fun hh => bad _ _ _ _ 1 rfl rfl f1 fun s => ⟨_, _, rfl, .inl ⟨fun h2 => ?_, rfl, rfl⟩⟩) fun hh => Ru.skip ?_
    · simp at hh; have := h2.2 g (List.mem_of_getElem? hg); omega
    simp at hh
    simp only [Then, Out]
    refine Ru.r1 fun P hP => ?_
    simp -implicitDefEqProofs (disch := first | decide | omega) [e4]
    refine Rg.ret (hP _ _ ⟨by repeat first | exact hk | refine Keep.up (by rfl) ?_, i + 1, by omega, rfl, by omega, rfl, fun g' hg' => ?_⟩)
    rw [List.take_add_one, hg, List.mem_append] at hg'
    rcases hg' with hg' | hg'
    · exact hall g' hg'
    · simp at hg'; subst hg'; omega
  simp at h
  rw [List.take_of_length_le (by omega)] at hall
  have hsh : Shape L := ⟨h50, hall⟩
  simp only [Then, Out, if_true]
  clear hall h hi e4
  refine Ru.at (fun ρ' => ρ' q1 = .sc (.ptr st.next 0)) (by simp (disch := first | decide | omega) [hk.e, e1]) fun ρ1 e1' => ?_
  clear hk e1 ρ ρ0 i
  have e1 := e1'
  clear e1'
  refine Ru.rs fun P hP => Rg.ret (hP _ _ ?_)
  clear hP P
  refine Ru.rs fun P hP => ?_
  simp -implicitDefEqProofs (disch := first | decide | omega)
  refine Rg.ret (hP _ _ ?_)
  clear hP P
  have kn := (Fr.refl f1.wf).new z16
  have J0 : RF' st (new s1 z16) L s1.next 0 (new s1 z16).next p y .nils := ⟨f1.trans kn, b1.fr kn, Bx.new, Sat.nil 21, Grw.nil _ _, hs1, by simp⟩
  have hn3 : s1.next < (new s1 z16).next := by simp
  generalize new s1 z16 = s3 at *
  clear kn b1 hy1 hx0' hx0 hc0 hr0 hg0 hn0
  generalize s1.next = im at *
  clear f1 s1
  refine Ru.seq (Ru.rs fun P hP => Rg.ret (hP _ _ ?_))
  clear hP P
  refine Ru.at (fun ρ => ρ q1 = .sc (.ptr st.next 0) ∧ ρ q5 = .sc .nils ∧ ρ q6 = .sc (.ptr im 0) ∧ ρ q7 = iv 0) ⟨by simp (disch := first | decide | omega) [e1], rfl, rfl, rfl⟩ fun ρ0 hE => ?_
  clear e1 ρ1
  obtain ⟨e1, e5, e6, e7⟩ := hE
  refine Ru.block (Ru.lp [q1, q6] (fun i : Nat => nOf L - i) (fun i ρ s => i ≤ nOf L ∧ ρ q7 = iv i ∧ (∀ k, k < i → ¬ badR L k) ∧ s3.next ≤ s.next ∧ ∃ z, ρ q5 = .sc z ∧ RF' st s L im i s3.next p y z)
    ⟨0, Nat.zero_le _, e7, fun k hk => by omega, Nat.le_refl _, _, e5, J0⟩ fun i ρ s hk hI => ?_)
  clear e5 e7 J0
  obtain ⟨hi, e7, hgood, hsn, z, e5, J⟩ := hI
  have hy := hL.fr J.fr
  obtain ⟨i0, o0, g0, hg0, hx0, hc0, hr0, _⟩ := colHd hy (j := 0) (by omega)
  have hx0' : ∀ K, ixs 1 (.sc y) (iv 0) K = K (.sc (.ptr i0 o0)) := hx0
  have hn0 : g0.ns.length = nOf L := (nOf_get hg0).symm
  refine Ru.seq (Ru.rs fun P hP => ?_)
  simp -implicitDefEqProofs (disch := first | decide | omega) [hk.e, e1, e7, J.b1.rd 1 _ rfl, hx0', hc0, lnS_sat hr0, hn0]
  refine Rg.ret (hP _ _ ?_)
  clear hP P hg0 hx0 hc0 hr0 hx0' hn0
  refine Ru.cond rfl (fun h => Ru.skip ?_) fun h => Ru.exit ?_
  rotate_left
  · simp at h
    have hin : i = nOf L := by omega
    subst hin
    simp only [Then, Out, if_true]
    refine Ru.sreg (Rg.ret (Ru.ret (hQ _ _ (.two (a := z) ?_ rfl ⟨J.fr, _, 0, rfl, .inr (.inr ⟨hsh, hgood, rfl, J.sat⟩)⟩))))
    simp (disch := first | decide | omega) [e5]
  simp at h
  simp only [Then, Out]
  have hlt : i < nOf L := by omega
  have hml : ((memS L i).map bs).length = 16 := by rw [List.length_map, memS_len]
  have hfill : ∀ tm K, fillK tm K [(5, 16, .c (.agg ((memS L i).map bs)))] z21 = K (stC 0 0 0 0 0 (memS L i)) := fun tm K => by
    rw [fill_agg tm K _ 5 _ 16 [] hml (by simp), fill_nil]
    exact congrArg K (fill5 0 (memS_len L i))
  have ls : (stC 0 0 0 0 0 (memS L i)).length = 21 := by simp [memS_len]
  have hst : ∀ K : St → R, sto (new s z21) 21 (V.sc (S.ptr s.next 0)) (.agg (stC 0 0 0 0 0 (memS L i))) K = K (wr (new s z21) s.next 0 (stC 0 0 0 0 0 (memS L i))) := fun K => sto_new K ls rfl
  refine Ru.seq (Ru.block (Ru.rs fun P hP => ?_))
  simp -implicitDefEqProofs (disch := first | decide | omega) [hk.e, e6, J.bm.N hml, build_eq, hfill, hst]
  refine Rg.ret (hP _ _ ?_)
  clear hP P hfill hst
  have kf := fr_mk J.fr.wf z21 (stC 0 0 0 0 0 (memS L i))
  have b7 : Bx (wr (new s z21) s.next 0 (stC 0 0 0 0 0 (memS L i))) s.next (stP L i 0 0 (memS L i)) := Bx.mk' (by rw [ls]; rfl)
  have hzl := J.grw.lt J.fr.wf
  have J1 : RF' st (wr (new s z21) s.next 0 (stC 0 0 0 0 0 (memS L i))) L im i s3.next p y z := ⟨J.fr.trans kf, J.b1.fr kf, J.bm.fr kf, J.sat.fr kf, J.grw.fr kf, J.o1, J.o2⟩
  have hn7 : s.next < (wr (new s z21) s.next 0 (stC 0 0 0 0 0 (memS L i))).next := b7.lt
  clear J kf hy
  generalize wr (new s z21) s.next 0 (stC 0 0 0 0 0 (memS L i)) = s5 at *
  generalize s.next = i7 at *
  obtain ⟨ia, oa, ia2, oa2, xa, hxa, hca, hxa2, hca2, _, _⟩ := col (hL.fr J1.fr) hsh (j := 0) (by omega) hlt
  have hxa' : ∀ K, ixs 1 (.sc y) (iv 0) K = K (.sc (.ptr ia oa)) := hxa
  refine Ru.seq (Ru.rs fun P hP => ?_)
  simp -implicitDefEqProofs (disch := first | decide | omega) [hk.e, e1, e7, J1.b1.rd 1 _ rfl, hxa', hca, hxa2, hca2]
  refine Rg.ret (hP _ _ ?_)
  clear hP P
  refine Ru.cond rfl (fun hh => bad _ _ _ _ 2 rfl rfl J1.fr fun s => ⟨_, _, rfl, .inr (.inl ⟨hsh, ⟨i, hlt, .inl (.inl ?_)⟩, rfl, rfl⟩)⟩) fun hh => Ru.skip ?_
  · simpa using hh
  simp at hh
  have hat : cv L 0 i ≤ 32 := hh
  clear hh
  simp only [Then, Out]
  have ls0 : (stP L i 0 0 (memS L i)).length = 21 := ls
  refine Ru.rs fun P hP => ?_
  simp -implicitDefEqProofs (disch := first | decide | omega) [hk.e, e1, e7, J1.b1.rd 1 _ rfl, hxa', hca, hxa2, hca2, b7.sto (i := 0) (by rw [ls0]; omega)]
  refine Rg.ret (hP _ _ ?_)
  clear hP P
  have kw := b7.kpw J1.fr.wf (i := 0) [is (cv L 0 i : Nat)]
  have b7' : Bx (wr s5 i7 0 [is (cv L 0 i : Nat)]) i7 (stP L i (cv L 0 i : Nat) 0 (memS L i)) := b7.set (i := 0) (by rw [ls0]; omega) (is (cv L 0 i : Nat))
  have kpz : ∀ {u v : St} {j : Nat}, Kp (some i7) u v → RF' st u L im j s3.next p y z → RF' st v L im j s3.next p y z := fun k J => by
    have o1 := J.o1
    have o2 := J.o2
    have hz : ∀ id, some i7 = some id → sid z ≠ some id := fun id h he => by cases h; have := hzl _ he; omega
    exact ⟨k.fr J.fr (fun id h => by cases h; omega) hw, J.b1.kp k (ne_some (by omega)), J.bm.kp k (ne_some (by omega)), J.sat.keep k hz, J.grw.keep k hz, o1, o2⟩
  have J2 := kpz kw J1
  have hn7' : i7 < (wr s5 i7 0 [is (cv L 0 i : Nat)]).next := by rw [wr_next]; exact hn7
  clear J1 b7 kw hn7 hxa hca hxa2 hca2 hxa'
  generalize wr s5 i7 0 [is (cv L 0 i : Nat)] = s6 at *
  refine Ru.seq (Ru.rs fun P hP => Rg.ret (hP _ _ ?_))
  clear hP P
  refine Ru.at (fun ρ' => Keep [q1, q6] ρ' ρ0 ∧ ρ' q7 = iv i ∧ ρ' q5 = .sc z ∧ ρ' q8 = .sc (.ptr i7 0) ∧ ρ' q9 = iv 0) ⟨by repeat first | exact hk | refine Keep.up (by rfl) ?_, by simp (disch := first | decide | omega) [e7], by simp (disch := first | decide | omega) [e5], rfl, rfl⟩ fun ρ2 hE => ?_
  clear hk e7 e5 ρ
  obtain ⟨hk, e7, e5, e8, e9⟩ := hE
  refine Ru.block (Ru.lp [q1, q6, q5, q7, q8] (fun j : Nat => 4 - j) (fun j ρ s => j ≤ 4 ∧ ρ q9 = iv j ∧ (∀ k, k < j → cv L (1 + k) i ≤ 255) ∧ i7 < s.next ∧ RF' st s L im i s3.next p y z ∧ Bx s i7 (stP L i (cv L 0 i : Nat) j (memS L i)))
    ⟨0, Nat.zero_le _, e9, fun k hk => by omega, hn7', J2, b7'⟩ fun j ρ s hk2 hI => ?_)
  clear e9 J2 b7' hn7'
  obtain ⟨hj4, e9, hreg, hn7, J, b7⟩ := hI
  refine Ru.seq (Ru.rs fun P hP => ?_)
  simp -implicitDefEqProofs (disch := first | decide | omega) [hk2.e, e9]
  refine Rg.ret (hP _ _ ?_)
  clear hP P
  refine Ru.cond rfl (fun h => Ru.skip ?_) fun h => Ru.exit ?_
  · simp at h
    simp only [Then, Out]
    have hlj : j < 4 := by omega
    obtain ⟨ia, oa, ia2, oa2, xa, hxa, hca, hxa2, hca2, _, _⟩ := col (hL.fr J.fr) hsh (j := 1 + j) (by omega) hlt
    have hxa' : ∀ K, ixs 1 (.sc y) (iv (1 + (j : Int))) K = K (.sc (.ptr ia oa)) := by
      have e : ((1 + j : Nat) : Int) = 1 + (j : Int) := by omega
      rw [e] at hxa; exact hxa
    refine Ru.seq (Ru.block (Ru.seq (Ru.rs fun P hP => ?_)))
    simp -implicitDefEqProofs (disch := first | decide | omega) [hk2.e, hk.e, e1, e7, e9, J.b1.rd 1 _ rfl, hxa', hca, hxa2, hca2]
    refine Rg.ret (hP _ _ ?_)
    clear hP P
    refine Ru.cond rfl (fun hh => bad _ _ _ _ 2 rfl rfl J.fr fun s => ⟨_, _, rfl, .inr (.inl ⟨hsh, ⟨i, hlt, .inl (.inr ⟨j, hlj, ?_⟩)⟩, rfl, rfl⟩)⟩) fun hh => Ru.skip ?_
    · simpa using hh
    simp at hh
    simp only [Then, Out]
    have ls : (stP L i (cv L 0 i : Nat) j (memS L i)).length = 21 := by simp [memS_len]
    refine Ru.r1 fun P hP => ?_
    simp -implicitDefEqProofs (disch := first | decide | omega) [hk2.e, hk.e, e1, e7, e8, e9, J.b1.rd 1 _ rfl, hxa', hca, hxa2, hca2, b7.sto (i := 1 + j) (by rw [ls]; omega)]
    refine Rg.ret (hP _ _ ?_)
    clear hP P
    have kw := b7.kpw J.fr.wf (i := 1 + j) [bs (cv L (1 + j) i % 256)]
    have b7' := b7.set (i := 1 + j) (by rw [ls]; omega) (bs (cv L (1 + j) i % 256))
    rw [stP_set L i _ j _ hlj] at b7'
    simp only [Then, Out]
    refine Ru.r1 fun P hP => ?_
    simp -implicitDefEqProofs (disch := first | decide | omega) [e9]
    refine Rg.ret (hP _ _ ⟨by repeat first | exact hk2 | refine Keep.up (by rfl) ?_, j + 1, by omega, by omega, rfl, fun k hk => ?_, by rw [wr_next]; exact hn7, kpz kw J, b7'⟩)
    rcases (show k < j ∨ k = j by omega) with h3 | rfl
    · exact hreg k h3
    · exact hh
  simp at h
  obtain rfl : j = 4 := by omega
  clear hj4 h e9 kpz
  simp only [Then, Out, if_true]
  have hkk : Keep [q1, q6] ρ ρ0 := .via (by rfl) hk2 hk
  refine Ru.at (fun ρ' => Keep [q1, q6] ρ' ρ0 ∧ ρ' q7 = iv i ∧ ρ' q5 = .sc z ∧ ρ' q8 = .sc (.ptr i7 0)) ⟨by repeat first | exact hkk | refine Keep.up (by rfl) ?_, by simp (disch := first | decide | omega) [hk2.e, e7], by simp (disch := first | decide | omega) [hk2.e, e5], by simp (disch := first | decide | omega) [hk2.e, e8]⟩ fun ρ3 hE => ?_
  clear hkk hk2 hk e7 e5 e8 ρ ρ2
  obtain ⟨hk, e7, e5, e8⟩ := hE
  have hnj : ¬ badJ L i 4 := by
    rintro (h | ⟨k, h1, h2⟩)
    · omega
    · have := hreg k h1; omega
  -- the row is appended
  have b7' : Bx s i7 (rowC L i) := b7
  have hfill : ∀ tm K, fillK tm K [(0, 21, .c (.agg (rowC L i)))] z21 = K (rowC L i) := fun tm K => by
    rw [fill_agg tm K _ 0 _ 21 [] (rowC_len L i) (by simp), fill_nil, setRange_all _ _ (rowC_len L i)]
  have oo2 := J.o2
  have oo1 := J.o1
  obtain ⟨z', s8, hA, r1, r2, r3, r4, r5⟩ := app_bld (b := 32) (k := 1) (nc := rowC L i) J.fr.wf J.sat J.grw (by omega) (by omega) (rowC_len L i) (by omega) (by omega)
  refine Ru.rs fun P hP => ?_
  simp -implicitDefEqProofs (disch := first | decide | omega) [hk.e, e5, e8, b7'.N (rowC_len L i), buildS_eq, hfill, hA]
  refine Rg.ret (hP _ _ ?_)
  clear hP P hfill hA
  rw [← rowsTo_succ] at r1
  have hzs : ∀ id, sid z = some id → s3.next ≤ id := J.grw.sid
  have hzi : ∀ j, j < s3.next → sid z ≠ some j := fun j hj he => by have := hzs _ he; omega
  have kf8 := r3.fr J.fr (fun id h => by have := hzs _ h; omega) hw
  have b18 := J.b1.kp r3 (hzi _ (by omega))
  have bm8 := J.bm.kp r3 (hzi _ (by omega))
  have hn8 : s3.next ≤ s8.next := by omega
  have hz8 : sid z' ≠ some im := by rw [r4]; exact ne_some (by omega)
  clear b7 b7' J hzs hzi r3 r4
  have hlast : ∀ ρ'' s'' , Keep [q1, q6] ρ'' ρ0 → ρ'' q7 = iv i → ρ'' q5 = .sc z' → ¬ badR L i → s3.next ≤ s''.next → RF' st s'' L im (i + 1) s3.next p y z' →
      Out n3 (Then (fun ρ s => Ru (cF F) (.reg [q7] fun c r s K => binK .add (r q7) I1 fun v0 => K [v0] s) ρ s (Then (fun ρ'' s => Keep [q1, q6] ρ'' ρ0 ∧ ∃ a', nOf L - a' < nOf L - i ∧ a' ≤ nOf L ∧ ρ'' q7 = iv a' ∧ (∀ k, k < a' → ¬ badR L k) ∧ s3.next ≤ s.next ∧ ∃ z, ρ'' q5 = .sc z ∧ RF' st s L im a' s3.next p y z) (Out n2 (Then (fun ρ s => Ru (cF F) (.seq (.reg [q2, q3] fun c r s K => K [(r q5), I0] s) .ret) ρ s Q) Q)))) (Out n2 (Then (fun ρ s => Ru (cF F) (.seq (.reg [q2, q3] fun c r s K => K [(r q5), I0] s) .ret) ρ s Q) Q))) X.normal ρ'' s'' := fun ρ'' s'' hk e7 e5 hnb hn J => by
    simp only [Then, Out]
    refine Ru.r1 fun P hP => ?_
    simp -implicitDefEqProofs (disch := first | decide | omega) [e7]
    refine Rg.ret (hP _ _ ⟨by repeat first | exact hk | refine Keep.up (by rfl) ?_, i + 1, by omega, by omega, rfl, fun k hk => ?_, hn, z', by simp (disch := first | decide | omega) [e5], J⟩)
    rcases (show k < i ∨ k = i by omega) with h | rfl
    · exact hgood k h
    · exact hnb
  obtain ⟨ia, oa, ia2, oa2, xa, hxa, hca, hxa2, hca2, _, _⟩ := col (hL.fr kf8) hsh (j := 32) (by omega) hlt
  obtain ⟨ib, ob, ib2, ob2, xb, hxb, hcb, hxb2, hcb2, _, _⟩ := col (hL.fr kf8) hsh (j := 34) (by omega) hlt
  obtain ⟨ic, oc, ic2, oc2, xc, hxc, hcc, hxc2, hcc2, _, _⟩ := col (hL.fr kf8) hsh (j := 11) (by omega) hlt
  have hxa' : ∀ K, ixs 1 (.sc y) (iv 32) K = K (.sc (.ptr ia oa)) := hxa
  have hxb' : ∀ K, ixs 1 (.sc y) (iv 34) K = K (.sc (.ptr ib ob)) := hxb
  have hxc' : ∀ K, ixs 1 (.sc y) (iv 11) K = K (.sc (.ptr ic oc)) := hxc
  refine Ru.rs fun P hP => ?_
  simp -implicitDefEqProofs (disch := first | decide | omega) [hk.e, e1, e7, b18.rd 1 _ rfl, hxc', hcc, hxc2, hcc2]
  refine Rg.ret (hP _ _ ?_)
  clear hP P
  refine Ru.cond rfl (fun hh => ?_) fun hh => Ru.skip ?_
  rotate_left
  · simp at hh
    have hm : memS L (i + 1) = memS L i := by rw [memS, if_neg hh]
    exact hlast _ _ (by repeat first | exact hk | refine Keep.up (by rfl) ?_) (by simp (disch := first | decide | omega) [e7]) rfl (by rintro (h | h); exact hnj h; exact hh h.1) hn8 ⟨kf8, b18, by rw [hm]; exact bm8, r1, r2, oo1, oo2⟩
  simp at hh
  refine Ru.seq (Ru.rs fun P hP => ?_)
  simp -implicitDefEqProofs +contextual (disch := first | decide | omega) [-Bool.not_or, -Bool.not_and, hk.e, e1, e7, b18.rd 1 _ rfl, hxa', hca, hxa2, hca2, hxb', hcb, hxb2, hcb2]
  refine Rg.ret (hP _ _ ?_)
  clear hP P
  refine Ru.cond rfl (fun h2 => bad _ _ _ _ 2 rfl rfl kf8 fun s => ⟨_, _, rfl, .inr (.inl ⟨hsh, ⟨i, hlt, .inr ⟨hh, ?_⟩⟩, rfl, rfl⟩)⟩) fun h2 => Ru.skip ?_
  · simpa using h2
  simp at h2
  simp only [Then, Out]
  refine Ru.d1 fun P hP => ?_
  have ob := bm8.own
  rw [hml] at ob
  have hdS := fun (al lm sm hv : Nat) (ll ss : List (Nat × Nat)) (n0 bit pre : Nat) (x : S) (K : V → Mk → St → R) (h : okS ⟨al, lm, sm, hv, [], ll, ss⟩ n0 pre im = true) => dS_ok (st := s8) (n := 16) (off := cv L 32 i) (bit := bit) ob (by omega) x K h
  simp -implicitDefEqProofs (disch := first | decide | omega | (apply okS_t; decide; (simp (decide := true) <;> omega))) [hk.e, e1, e6, e7, b18.rd 1 _ rfl, hxa', hca, hxa2, hca2, hxb', hcb, hxb2, hcb2, hdS]
  refine Rg.ret (hP _ _ ?_)
  clear hP P hdS
  have kw := bm8.kpw kf8.wf (i := cv L 32 i) [bs (cv L 34 i % 256)]
  have bm' := bm8.set (i := cv L 32 i) (by rw [hml]; omega) (bs (cv L 34 i % 256))
  have hms : ((memS L i).map bs).set (cv L 32 i) (bs (cv L 34 i % 256)) = (memS L (i + 1)).map bs := by
    rw [← List.map_set]; congr 1; rw [memS, if_pos hh, Nat.mod_eq_of_lt (show cv L 32 i < 16 by omega)]
  rw [hms] at bm'
  refine hlast _ _ (by repeat first | exact hk | refine Keep.up (by rfl) ?_) (by simp (disch := first | decide | omega) [e7]) rfl (by rintro (h | h); exact hnj h; have := h.2; omega) (by rw [wr_next]; exact hn8) ⟨kw.fr kf8 (fun id h => by cases h; omega) hw, b18.kp kw (ne_some (by omega)), bm', r1.keep kw fun id h he => by cases h; exact hz8 he, r2.keep kw fun id h he => by cases h; exact hz8 he, oo1, oo2⟩
end Go.Proofs.YtphindkhkcncdaaDoor.Ev
namespace Go.Proofs.YtphindkhkcncdaaDoor.Ev
set_option linter.unusedSimpArgs false
set_option linter.unusedVariables false
variable {st s t : St} {n i id off : Nat} {L : List NsD}
theorem row_ints (L : List NsD) (i : Nat) : All2 IntK (rowC L i) (rowC L i) := by
  have h : ∀ k m, IntK (.int k m) (.int k m) := fun k m => ⟨k, m, m, rfl, rfl⟩
  have hm : ∀ l : List Nat, All2 IntK (l.map bs) (l.map bs) := fun l => by
    induction l with
    | nil => exact .nil
    | cons a l ih => exact .cons (h _ _) ih
  exact .cons (h _ _) (.cons (h _ _) (.cons (h _ _) (.cons (h _ _) (.cons (h _ _) (hm _)))))
theorem same_ok (hw : WfS st) {y1 y2 : S} (h1 : Sat st y1 n 21 (rowsTo L n)) (h2 : Sat st y2 n 21 (rowsTo L n)) (hlen : n < 9223372036854775808) :
    Ca (cF F) 7 [.sc y1, .sc y2] st (fun v s => s = st ∧ v = bl true) := by
  refine Ca.of (hf := cf7) rfl rfl [q0, q1] [.tmp q4] rfl rfl rfl fun Q hQ => ?_
  refine Ru.rs fun P hP => Rg.ret (hP _ _ ?_)
  clear hP P
  refine Ru.seq (Ru.rs fun P hP => ?_)
  simp -implicitDefEqProofs (disch := first | decide | omega) [lnS_sat h1, lnS_sat h2]
  refine Rg.ret (hP _ _ (Ru.cond rfl (fun h => by cases h) fun h => Ru.skip ?_))
  clear hP P
  simp only [Then, Out]
  refine Ru.seq (Ru.rs fun P hP => Rg.ret (hP _ _ ?_))
  clear hP P
  refine Ru.at (fun ρ => ρ q0 = .sc y1 ∧ ρ q1 = .sc y2 ∧ ρ q5 = iv 0) ⟨rfl, rfl, rfl⟩ fun ρ0 hE => ?_
  obtain ⟨e0, e1, e5⟩ := hE
  refine Ru.block (Ru.lp [q0, q1] (fun i : Nat => n - i) (fun i ρ s => s = st ∧ i ≤ n ∧ ρ q5 = iv i)
    ⟨0, rfl, by omega, e5⟩ fun i ρ s hk hI => ?_)
  clear e5
  obtain ⟨hs, hi, e5⟩ := hI
  subst s
  refine Ru.seq (Ru.rs fun P hP => ?_)
  simp -implicitDefEqProofs (disch := first | decide | omega) [hk.e, e0, e1, e5, lnS_sat h1]
  refine Rg.ret (hP _ _ ?_)
  clear hP P
  refine Ru.cond rfl (fun h => Ru.skip ?_) fun h => Ru.exit ?_
  rotate_left
  · simp only [Then, Out, if_true]
    exact Ru.sreg (Rg.ret (Ru.ret (hQ _ _ (.one rfl ⟨rfl, rfl⟩))))
  simp at h
  simp only [Then, Out]
  have hlt : i < n := by omega
  have hgi : (List.range n)[i]? = some i := by rw [List.getElem?_range hlt]
  obtain ⟨r1, o1, hx1, hc1, _⟩ := elt (f := rowC L) (z := 21) (l := List.range n) (rowC_len L) (by rw [List.length_range]; exact h1) hgi
  obtain ⟨r2, o2, hx2, hc2, _⟩ := elt (f := rowC L) (z := 21) (l := List.range n) (rowC_len L) (by rw [List.length_range]; exact h2) hgi
  have n1' : rdN st r1 o1 21 = some (rowC L i) := rdN_get (rowC_len L i) hc1
  have n2' : rdN st r2 o2 21 = some (rowC L i) := rdN_get (rowC_len L i) hc2
  obtain ⟨e, he, hee⟩ := eqv_ints (st := st) (row_ints L i) (ts := [1, 1, 1, 1, 1, 1, 1, 1, 1, 1, 1, 1, 1, 1, 1, 1, 1, 1, 1, 1, 1]) (by rw [rowC_len]; rfl)
  rw [hee.2 rfl] at he
  refine Ru.seq (Ru.block (Ru.ds fun P hP => ?_))
  simp -implicitDefEqProofs (disch := first | decide | omega) [hk.e, e0, e1, e5, hx1, hx2, n1', n2', he]
  refine Rg.ret (hP _ _ (Ru.cond rfl (fun h => by cases h) fun h => Ru.skip ?_))
  clear hP P
  simp only [Then, Out]
  refine Ru.r1 fun P hP => ?_
  simp -implicitDefEqProofs (disch := first | decide | omega) [e5]
  exact Rg.ret (hP _ _ ⟨by repeat first | exact hk | refine Keep.up (by rfl) ?_, i + 1, by omega, rfl, by omega, rfl⟩)
theorem read_same {s s' : St} {v v' : V} (h1 : ReadR L s v) (h2 : ReadR L s' v') (k : Fr s s') (h40 : nOf L ≤ 40) :
    ∃ (y1 y2 : S) (e : Int) (n : Nat), v = .tup [(false, [y1]), (false, [is e])] ∧ v' = .tup [(false, [y2]), (false, [is e])] ∧ n < 100 ∧ Sat s' y1 n 21 (rowsTo L n) ∧ Sat s' y2 n 21 (rowsTo L n) := by
  obtain ⟨y1, e1, rfl, h1⟩ := h1
  obtain ⟨y2, e2, rfl, h2⟩ := h2
  rcases h1 with ⟨n1, rfl, rfl⟩ | ⟨n1, ⟨i, hi, hb⟩, rfl, rfl⟩ | ⟨n1, r1, rfl, p1⟩
  · rcases h2 with ⟨n2, rfl, rfl⟩ | ⟨n2, _⟩ | ⟨n2, _⟩
    · exact ⟨_, _, _, 0, rfl, rfl, by omega, Sat.nil 21, Sat.nil 21⟩
    · exact absurd n2 n1
    · exact absurd n2 n1
  · rcases h2 with ⟨n2, rfl, rfl⟩ | ⟨n2, _, rfl, rfl⟩ | ⟨n2, r2, _⟩
    · exact absurd n1 n2
    · exact ⟨_, _, _, 0, rfl, rfl, by omega, Sat.nil 21, Sat.nil 21⟩
    · exact absurd hb (r2 i hi)
  · rcases h2 with ⟨n2, rfl, rfl⟩ | ⟨n2, ⟨i, hi, hb⟩, rfl, rfl⟩ | ⟨n2, r2, rfl, p2⟩
    · exact absurd n1 n2
    · exact absurd hb (r1 i hi)
    · exact ⟨_, _, _, nOf L, rfl, rfl, by omega, p1.fr k, p2⟩
end Go.Proofs.YtphindkhkcncdaaDoor.Ev
