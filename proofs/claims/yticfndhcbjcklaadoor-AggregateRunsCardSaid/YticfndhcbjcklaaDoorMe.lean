/- What the listed package variables hold, and the evaluator's runs, by the kernel; no conditions. -/
import Derived.Test.YticfndhcbjcklaaDoorMd
import Derived.Test.YticfndhcbjcklaaDoorEvF
namespace Go.Proofs.YticfndhcbjcklaaDoor.Ev
set_option linter.unusedSimpArgs false
set_option linter.unusedVariables false
variable {st s t : St} {n i id off : Nat}
/-! sums over programs -/
def sm (f : GatesD → Int) : List GatesD → Int
  | [] => 0
  | g :: r => f g + sm f r
theorem sm_append (f : GatesD → Int) : ∀ a b, sm f (a ++ b) = sm f a + sm f b
  | [], b => by simp [sm]
  | g :: a, b => by show f g + sm f (a ++ b) = f g + sm f a + sm f b; rw [sm_append f a b]; omega
theorem sm_take {f : GatesD → Int} {l : List GatesD} {i : Nat} {g : GatesD} (h : l[i]? = some g) : sm f (l.take (i + 1)) = sm f (l.take i) + f g := by
  rw [List.take_add_one, h, sm_append]; simp [sm]
theorem sm_ge {f : GatesD → Int} : ∀ {l : List GatesD}, (∀ g ∈ l, 0 ≤ f g) → 0 ≤ sm f l
  | [], _ => Int.le_refl _
  | g :: l, h => by
    have h1 := h g List.mem_cons_self
    have h2 := sm_ge (l := l) fun g hg => h g (List.mem_cons_of_mem _ hg)
    show 0 ≤ f g + sm f l; omega
theorem sm_le {f : GatesD → Int} {b : Int} : ∀ {l : List GatesD}, (∀ g ∈ l, f g ≤ b) → sm f l ≤ l.length * b
  | [], _ => by simp [sm]
  | g :: l, h => by
    have h1 := h g List.mem_cons_self
    have h2 := sm_le (l := l) fun g hg => h g (List.mem_cons_of_mem _ hg)
    show f g + sm f l ≤ _
    rw [List.length_cons, Int.natCast_succ, Int.add_mul]; omega
abbrev rowsN (g : GatesD) : Int := g.rows.length
def lastF (l : List GatesD) : Int := match l.getLast? with | some g => g.field | none => 0
theorem lastF_take {l : List GatesD} {i : Nat} {g : GatesD} (h : l[i]? = some g) : lastF (l.take (i + 1)) = g.field := by
  unfold lastF
  rw [List.take_add_one, h]
  simp
structure SmB (l : List GatesD) : Prop where
  p0 : 0 ≤ sm GatesD.pub l
  p1 : sm GatesD.pub l ≤ 384
  s0 : 0 ≤ sm GatesD.sec l
  s1 : sm GatesD.sec l ≤ 480000
  v0 : 0 ≤ sm GatesD.vars l
  v1 : sm GatesD.vars l ≤ 960000
  r0 : 0 ≤ sm rowsN l
  r1 : sm rowsN l ≤ 192000
theorem smB {l : List GatesD} (h24 : l.length ≤ 24) (hb : ∀ g ∈ l, Base g) : SmB l := by
  have a1 := sm_le (f := GatesD.pub) (b := 16) fun g hg => (hb g hg).p1
  have a2 := sm_le (f := GatesD.sec) (b := 20000) fun g hg => (hb g hg).s1
  have a3 := sm_le (f := GatesD.vars) (b := 40000) fun g hg => (hb g hg).v1
  have a4 := sm_le (f := rowsN) (b := 8000) fun g hg => by have := (hb g hg).r1; show (g.rows.length : Int) ≤ 8000; omega
  exact ⟨sm_ge fun g hg => (hb g hg).p0, by omega, sm_ge fun g hg => (hb g hg).s0, by omega, sm_ge fun g hg => by have h := hb g hg; have h1 := h.p0; have h2 := h.s0; have h3 := h.v0; omega, by omega, sm_ge fun g hg => by show (0 : Int) ≤ g.rows.length; omega, by omega⟩
theorem sums_ok (hw : WfS st) {x : S} {l : List GatesD} (hl : RepGs st x l) (h24 : l.length ≤ 24) (hb : ∀ g ∈ l, Base g) :
    Ca (cF F) 30 [.sc x] st (fun v s => Fr st s ∧ v = .tup [(true, [is (lastF l), is (sm GatesD.vars l), is (sm GatesD.pub l), is (sm GatesD.sec l), zn]), (false, [is (sm rowsN l)])]) := by
  refine Ca.of (hf := cf30) rfl rfl [q0] [.cellN n5 q2, .tmp q3] rfl rfl rfl fun Q hQ => ?_
  have f1 : Fr st (new st [is 0, is 0, is 0, is 0, zn]) := (Fr.refl hw).new _
  have b2 : Bx (new st [is 0, is 0, is 0, is 0, zn]) st.next [is 0, is 0, is 0, is 0, zn] := Bx.new
  refine Ru.rs fun P hP => ?_
  simp -implicitDefEqProofs (disch := first | decide | omega)
  refine Rg.ret (hP _ _ ?_)
  clear hP P
  generalize new st [is 0, is 0, is 0, is 0, zn] = s1 at *
  have f2 := (Fr.refl f1.wf).new [is 0, is 0, is 0, is 0, zn]
  have hst : ∀ K : St → R, sto (new s1 [is 0, is 0, is 0, is 0, zn]) 5 (V.sc (S.ptr s1.next 0)) (.agg [is 0, is 0, is 0, is 0, zn]) K = K (wr (new s1 [is 0, is 0, is 0, is 0, zn]) s1.next 0 [is 0, is 0, is 0, is 0, zn]) := fun K => sto_new K rfl rfl
  refine Ru.rs fun P hP => ?_
  simp -implicitDefEqProofs (disch := first | decide | omega) [build_eq, fill_nil, hst]
  refine Rg.ret (hP _ _ ?_)
  clear hP P hst
  have f3 := fr_mk f1.wf [is 0, is 0, is 0, is 0, zn] [is 0, is 0, is 0, is 0, zn]
  have b4 : Bx (wr (new s1 [is 0, is 0, is 0, is 0, zn]) s1.next 0 [is 0, is 0, is 0, is 0, zn]) s1.next [is 0, is 0, is 0, is 0, zn] := Bx.mk' rfl
  have b2' := b2.fr f3
  have hne : s1.next ≠ st.next := by have := b2.lt; omega
  generalize wr (new s1 [is 0, is 0, is 0, is 0, zn]) s1.next 0 [is 0, is 0, is 0, is 0, zn] = s2 at *
  have hid4 : st.next ≤ s1.next := f1.next
  generalize s1.next = i4 at *
  have f12 := f1.trans f3
  refine Ru.seq (Ru.rs fun P hP => ?_)
  simp -implicitDefEqProofs (disch := first | decide | omega) [lnS_sat (hl.fr f12).sat]
  refine Rg.ret (hP _ _ ?_)
  clear hP P
  refine Ru.at (fun ρ => ρ q2 = .sc (.ptr st.next 0) ∧ ρ q4 = .sc (.ptr i4 0) ∧ ρ q9 = .sc x ∧ ρ q10 = iv l.length ∧ ρ q11 = iv 0 ∧ ρ q5 = iv 0) ⟨rfl, rfl, rfl, rfl, rfl, rfl⟩ fun ρ1 hE => ?_
  obtain ⟨e2, e4, e9, e10, e11, e5⟩ := hE
  refine Ru.block (Ru.lp [q2, q4, q9, q10] (fun i : Nat => l.length - i) (fun i ρ s => Fr st s ∧ i ≤ l.length ∧ ρ q11 = iv i ∧ ρ q5 = iv (sm rowsN (l.take i)) ∧ Bx s st.next [is 0, is 0, is 0, is 0, zn] ∧ Bx s i4 [is (lastF (l.take i)), is (sm GatesD.vars (l.take i)), is (sm GatesD.pub (l.take i)), is (sm GatesD.sec (l.take i)), zn])
    ⟨0, f12, by omega, e11, e5, b2', b4⟩ fun i ρ s hk hI => ?_)
  clear e11 e5 b4 b2' b2
  obtain ⟨hf, hi, e11, e5, b2, b4⟩ := hI
  refine Ru.rs fun P hP => ?_
  simp -implicitDefEqProofs (disch := first | decide | omega) [hk.e, e10, e11]
  refine Rg.ret (hP _ _ ?_)
  clear hP P
  refine Ru.seq (Ru.cond rfl (fun h => Ru.skip ?_) fun h => Ru.exit ?_)
  rotate_left
  · simp at h
    have : i = l.length := by omega
    subst this
    rw [List.take_length] at b4 e5
    simp only [Then, Out, if_true]
    have hsN : ∀ K : St → R, sto s 5 (V.sc (S.ptr st.next 0)) (.agg [is (lastF l), is (sm GatesD.vars l), is (sm GatesD.pub l), is (sm GatesD.sec l), zn]) K = K (wr s st.next 0 [is (lastF l), is (sm GatesD.vars l), is (sm GatesD.pub l), is (sm GatesD.sec l), zn]) := fun K => b2.stoN (n := 5) rfl rfl K
    refine Ru.rs fun P hP => ?_
    simp -implicitDefEqProofs (disch := first | decide | omega) [hk.e, e2, e4, e5, b4.N (n := 5) rfl, hsN]
    have b2' := b2.setN (l' := [is (lastF l), is (sm GatesD.vars l), is (sm GatesD.pub l), is (sm GatesD.sec l), zn]) rfl
    refine Rg.ret (hP _ _ (Ru.ret (hQ _ _ (resP.cellsTmp (n := 4) (id := st.next) (off := 0) (b := is (sm rowsN l)) ?_ (b2'.N rfl) rfl ⟨(b2.kpw hf.wf _).fr hf (fun id h => by cases h; exact Nat.le_refl _) hw, rfl⟩))))
    simp (disch := first | decide | omega) [hk.e, e2]
  simp at h
  have hlt : i < l.length := by omega
  have hgi := List.getElem?_eq_getElem hlt
  have hmem := List.getElem_mem hlt
  generalize l[i] = g at hgi hmem
  obtain ⟨rid, ro, hix, hgc, _⟩ := elt (f := gC) (z := 5) (fun _ => rfl) (hl.fr hf).sat hgi
  have hgN : rdN s rid ro 5 = some (gC g) := rdN_get rfl hgc
  have hst : ∀ K : St → R, sto (new s [is 0, is 0, is 0, is 0, zn]) 5 (V.sc (S.ptr s.next 0)) (.agg (gC g)) K = K (wr (new s [is 0, is 0, is 0, is 0, zn]) s.next 0 (gC g)) := fun K => sto_new K rfl rfl
  have hB := smB (l := l.take i) (by rw [List.length_take]; omega) fun g hg => hb g (List.mem_of_mem_take hg)
  have hbg := hb g hmem
  obtain ⟨_, _, c1, c2, c3, c4, c5, c6, c7⟩ := hbg
  obtain ⟨d1, d2, d3, d4, d5, d6, d7, d8⟩ := hB
  refine Ru.seq (Ru.block (Ru.rs fun P hP => ?_))
  simp -implicitDefEqProofs (disch := first | decide | omega) [hk.e, e9, e11, hix, hgN, hst]
  clear hst
  have k3 := fr_mk hf.wf [is 0, is 0, is 0, is 0, zn] (gC g)
  have b7 : Bx (wr (new s [is 0, is 0, is 0, is 0, zn]) s.next 0 (gC g)) s.next (gC g) := Bx.mk' rfl
  refine Rg.ret (hP _ _ ?_)
  clear hP P
  have hne7 : s.next ≠ i4 := by have := b4.lt; omega
  have b2 := b2.fr k3
  have b4 := b4.fr k3
  have hrr := (hl.fr (hf.trans k3)).rows g hmem
  have hfA := hf.trans k3
  generalize wr (new s [is 0, is 0, is 0, is 0, zn]) s.next 0 (gC g) = sA at *
  -- the four sums
  have ld7 : ∀ {u}, Kp (some i4) sA u → ∀ i y, (gC g)[i]? = some y → rd u s.next i = some y := fun k i y hy => k.rd (by simp; omega) (b7.rd i y hy)
  refine Ru.rs fun P hP => ?_
  simp -implicitDefEqProofs (disch := first | decide | omega) [hk.e, e4, b7.rd 0 _ rfl, b4.sto (i := 0) (by simp)]
  refine Rg.ret (hP _ _ ?_)
  clear hP P
  have kA := b4.kpw hfA.wf (i := 0) [is g.field]
  have b4a := b4.set (i := 0) (by simp) (is g.field)
  simp only [List.set] at b4a
  generalize wr sA i4 0 [is g.field] = sB at *
  refine Ru.rs fun P hP => ?_
  simp -implicitDefEqProofs (disch := first | decide | omega) [hk.e, e4, ld7 kA 2 _ rfl, b4a.rd 2 _ rfl, b4a.sto (i := 2) (by simp)]
  refine Rg.ret (hP _ _ ?_)
  clear hP P
  have kB := kA.trans (b4a.kpw kA.wf (i := 2) [is (sm GatesD.pub (l.take i) + g.pub)])
  have b4b := b4a.set (i := 2) (by simp) (is (sm GatesD.pub (l.take i) + g.pub))
  simp only [List.set] at b4b
  generalize wr sB i4 2 [is (sm GatesD.pub (l.take i) + g.pub)] = sC at *
  refine Ru.rs fun P hP => ?_
  simp -implicitDefEqProofs (disch := first | decide | omega) [hk.e, e4, ld7 kB 3 _ rfl, b4b.rd 3 _ rfl, b4b.sto (i := 3) (by simp)]
  refine Rg.ret (hP _ _ ?_)
  clear hP P
  have kC := kB.trans (b4b.kpw kB.wf (i := 3) [is (sm GatesD.sec (l.take i) + g.sec)])
  have b4c := b4b.set (i := 3) (by simp) (is (sm GatesD.sec (l.take i) + g.sec))
  simp only [List.set] at b4c
  generalize wr sC i4 3 [is (sm GatesD.sec (l.take i) + g.sec)] = sD at *
  refine Ru.rs fun P hP => ?_
  simp -implicitDefEqProofs (disch := first | decide | omega) [hk.e, e4, ld7 kC 1 _ rfl, b4c.rd 1 _ rfl, b4c.sto (i := 1) (by simp)]
  refine Rg.ret (hP _ _ ?_)
  clear hP P
  have kD := kC.trans (b4c.kpw kC.wf (i := 1) [is (sm GatesD.vars (l.take i) + g.vars)])
  have b4d := b4c.set (i := 1) (by simp) (is (sm GatesD.vars (l.take i) + g.vars))
  simp only [List.set] at b4d
  generalize wr sD i4 1 [is (sm GatesD.vars (l.take i) + g.vars)] = sE at *
  have hfE := kD.fr hfA (fun id h => by cases h; omega) hw
  refine Ru.r1 fun P hP => ?_
  simp -implicitDefEqProofs (disch := first | decide | omega) [hk.e, e4, e5, ld7 kD 4 _ rfl, lnS_sat ((hl.fr hfE).rows g hmem)]
  refine Rg.ret (hP _ _ ?_)
  clear hP P
  simp only [Then, Out]
  refine Ru.r1 fun P hP => ?_
  simp -implicitDefEqProofs (disch := first | decide | omega) [e11]
  refine Rg.ret (hP _ _ ⟨by repeat first | exact hk | refine Keep.up (by rfl) ?_, i + 1, by omega, hfE, by omega, rfl, ?_, b2.kp kD (by simp; omega), ?_⟩)
  · rw [sm_take hgi]; rfl
  · rw [sm_take hgi, sm_take hgi, sm_take hgi, lastF_take hgi]; exact b4d
end Go.Proofs.YticfndhcbjcklaaDoor.Ev
namespace Go.Proofs.YticfndhcbjcklaaDoor.Ev
set_option linter.unusedSimpArgs false
set_option linter.unusedVariables false
variable {st s t : St} {n i id off : Nat}
structure RoomP (l : List GatesD) : Prop where
  p : sm GatesD.pub l ≤ 16
  s : sm GatesD.sec l ≤ 20000
  v : sm GatesD.vars l ≤ 40000
  r : sm rowsN l ≤ 8000
theorem room_ok (hw : WfS st) {x : S} {l : List GatesD} (hl : RepGs st x l) (h24 : l.length ≤ 24) (hb : ∀ g ∈ l, Base g) :
    Ca (cF F) 29 [.sc x] st (fun v s => Fr st s ∧ ∃ b, v = bl b ∧ (b = true ↔ RoomP l)) := by
  refine Ca.of (hf := cf29) rfl rfl [q0] [.tmp q2] rfl rfl rfl fun Q hQ => ?_
  refine Ru.rs fun P hP => Rg.ret (hP _ _ ?_)
  clear hP P
  refine Ru.rs fun P hP => ?_
  simp -implicitDefEqProofs (disch := first | decide | omega)
  refine Rg.call (sums_ok hw hl h24 hb) fun v s h => ?_
  obtain ⟨k, rfl⟩ := h
  have hst : ∀ K : St → R, sto (new s [is 0, is 0, is 0, is 0, zn]) 5 (V.sc (S.ptr s.next 0)) (.agg [is (lastF l), is (sm GatesD.vars l), is (sm GatesD.pub l), is (sm GatesD.sec l), zn]) K = K (wr (new s [is 0, is 0, is 0, is 0, zn]) s.next 0 [is (lastF l), is (sm GatesD.vars l), is (sm GatesD.pub l), is (sm GatesD.sec l), zn]) := fun K => sto_new K rfl rfl
  simp -implicitDefEqProofs (disch := first | decide | omega) [hst]
  refine Rg.ret (hP _ _ ?_)
  clear hP P hst
  have k3 := fr_mk k.wf [is 0, is 0, is 0, is 0, zn] [is (lastF l), is (sm GatesD.vars l), is (sm GatesD.pub l), is (sm GatesD.sec l), zn]
  have b7 : Bx (wr (new s [is 0, is 0, is 0, is 0, zn]) s.next 0 [is (lastF l), is (sm GatesD.vars l), is (sm GatesD.pub l), is (sm GatesD.sec l), zn]) s.next [is (lastF l), is (sm GatesD.vars l), is (sm GatesD.pub l), is (sm GatesD.sec l), zn] := Bx.mk' rfl
  generalize wr (new s [is 0, is 0, is 0, is 0, zn]) s.next 0 [is (lastF l), is (sm GatesD.vars l), is (sm GatesD.pub l), is (sm GatesD.sec l), zn] = sA at *
  refine Ru.rs fun P hP => ?_
  simp -implicitDefEqProofs +contextual (disch := first | decide | omega) [-Bool.not_or, -Bool.not_and, b7.rd 1 _ rfl, b7.rd 2 _ rfl, b7.rd 3 _ rfl]
  refine Rg.ret (hP _ _ (Ru.ret (hQ _ _ (.one rfl ⟨k.trans k3, _, rfl, ?_⟩))))
  simp
  exact ⟨fun h => ⟨h.1.1.1, h.1.1.2, h.1.2, h.2⟩, fun h => ⟨⟨⟨h.p, h.s⟩, h.v⟩, h.r⟩⟩
/-- where a variable lies in the joined program -/
def placeV (pub sec : Int) (a b c v : Int) : Int := if v < 0 then -1 else if v < pub then a + v else if v < pub + sec then b + v - pub else c + v - pub - sec
abbrev othN (g : GatesD) : Int := g.vars - g.pub - g.sec
/-- the closure of the program's Join -/
theorem place_ok (hw : WfS st) (g : GatesD) (a b c v : Int) {ig ia ib ic : Nat} (hb : Base g) (ha0 : 0 ≤ a ∧ a ≤ 1000000) (hb0 : 0 ≤ b ∧ b ≤ 1000000) (hc0 : 0 ≤ c ∧ c ≤ 2000000) (hv : -1 ≤ v ∧ v ≤ 40000)
    (bg : ∀ i y, (gC g)[i]? = some y → rd st ig i = some y) (ba : rd st ia 0 = some (is a)) (bb : rd st ib 0 = some (is b)) (bc : rd st ic 0 = some (is c)) :
    Ca (cF F) 31 [iv v, .sc (.ptr ig 0), .sc (.ptr ia 0), .sc (.ptr ib 0), .sc (.ptr ic 0)] st (fun w s => s = st ∧ w = iv (placeV g.pub g.sec a b c v)) := by
  refine Ca.of (hf := cf31) rfl rfl [q0, q1, q2, q3, q4] [.tmp q6] rfl rfl rfl fun Q hQ => ?_
  obtain ⟨_, _, c1, c2, c3, c4, c5, c6, c7⟩ := hb
  refine Ru.rs fun P hP => Rg.ret (hP _ _ ?_)
  clear hP P
  refine Ru.rs fun P hP => ?_
  simp -implicitDefEqProofs (disch := first | decide | omega) [bg 2 _ rfl, bg 3 _ rfl]
  refine Rg.ret (hP _ _ ?_)
  clear hP P
  refine Ru.block (Ru.rs fun P hP => ?_)
  simp -implicitDefEqProofs (disch := first | decide | omega)
  refine Rg.ret (hP _ _ ?_)
  clear hP P
  refine Ru.cond rfl (fun h => Ru.rs fun P hP => ?_) fun h => Ru.rs fun P hP => ?_
  · simp at h
    have e : placeV g.pub g.sec a b c v = -1 := by unfold placeV; rw [if_pos h]
    exact Rg.ret (hP _ _ (Ru.ret (hQ _ _ (.one rfl ⟨rfl, by rw [e]; rfl⟩))))
  simp at h
  simp -implicitDefEqProofs (disch := first | decide | omega) [bg 2 _ rfl]
  refine Rg.ret (hP _ _ ?_)
  clear hP P
  refine Ru.cond rfl (fun h2 => Ru.rs fun P hP => ?_) fun h2 => Ru.rs fun P hP => ?_
  · simp at h2
    simp -implicitDefEqProofs (disch := first | decide | omega) [ba]
    have e : placeV g.pub g.sec a b c v = a + v := by unfold placeV; rw [if_neg (by omega), if_pos h2]
    exact Rg.ret (hP _ _ (Ru.ret (hQ _ _ (.one rfl ⟨rfl, by rw [e]; rfl⟩))))
  simp at h2
  simp -implicitDefEqProofs (disch := first | decide | omega)
  refine Rg.ret (hP _ _ ?_)
  clear hP P
  refine Ru.cond rfl (fun h3 => Ru.rs fun P hP => ?_) fun h3 => Ru.rs fun P hP => ?_
  · simp at h3
    simp -implicitDefEqProofs (disch := first | decide | omega) [bb, bg 2 _ rfl]
    have e : placeV g.pub g.sec a b c v = b + v - g.pub := by unfold placeV; rw [if_neg (by omega), if_neg (by omega), if_pos h3]
    exact Rg.ret (hP _ _ (Ru.ret (hQ _ _ (.one rfl ⟨rfl, by rw [e]; rfl⟩))))
  simp at h3
  simp -implicitDefEqProofs (disch := first | decide | omega) [bc]
  have e : placeV g.pub g.sec a b c v = c + v - (g.pub + g.sec) := by unfold placeV; rw [if_neg (by omega), if_neg (by omega), if_neg (by omega)]; omega
  exact Rg.ret (hP _ _ (Ru.ret (hQ _ _ (.one rfl ⟨rfl, by rw [e]; rfl⟩))))
end Go.Proofs.YticfndhcbjcklaaDoor.Ev
namespace Go.Proofs.YticfndhcbjcklaaDoor.Ev
set_option linter.unusedSimpArgs false
set_option linter.unusedVariables false
variable {st s t : St} {n i id off : Nat}
theorem sm_split {f : GatesD → Int} {l : List GatesD} {i : Nat} {g : GatesD} (h : l[i]? = some g) (hf : ∀ g ∈ l, 0 ≤ f g) : sm f (l.take i) + f g ≤ sm f l := by
  have h1 := sm_append f (l.take (i + 1)) (l.drop (i + 1))
  rw [List.take_append_drop, sm_take h] at h1
  have h2 := sm_ge (f := f) (l := l.drop (i + 1)) fun g hg => hf g (List.mem_of_mem_drop hg)
  omega
/-! the joined program -/
def moved (a b c : Int) (g : GatesD) (r : GateD) : GateD := ⟨r.kind, fun j => placeV g.pub g.sec a b c (r.w j), r.q, r.round⟩
def aI (l : List GatesD) (i : Nat) : Int := sm GatesD.pub (l.take i)
def bI (l : List GatesD) (i : Nat) : Int := sm GatesD.pub l + sm GatesD.sec (l.take i)
def cI (l : List GatesD) (i : Nat) : Int := sm GatesD.pub l + sm GatesD.sec l + sm othN (l.take i)
def mvd (l : List GatesD) (i : Nat) (g : GatesD) : GateD → GateD := moved (aI l i) (bI l i) (cI l i) g
def joinTo (l : List GatesD) : Nat → List GateD
  | 0 => []
  | i + 1 => joinTo l i ++ (match l[i]? with | some g => g.rows.map (mvd l i g) | none => [])
theorem joinTo_succ {l : List GatesD} {i : Nat} {g : GatesD} (h : l[i]? = some g) : joinTo l (i + 1) = joinTo l i ++ g.rows.map (mvd l i g) := by
  show joinTo l i ++ (match l[i]? with | some g => g.rows.map (mvd l i g) | none => []) = _
  rw [h]
theorem joinTo_len (l : List GatesD) : ∀ i, i ≤ l.length → ((joinTo l i).length : Int) = sm rowsN (l.take i)
  | 0, _ => by simp [joinTo, sm]
  | i + 1, h => by
    have hg := List.getElem?_eq_getElem (show i < l.length by omega)
    rw [joinTo_succ hg, sm_take hg, List.length_append, List.length_map]
    have := joinTo_len l i (by omega)
    show (((joinTo l i).length + (l[i]).rows.length : Nat) : Int) = _
    rw [Int.natCast_add, this]
/-- a row whose first wires are moved -/
def partG (a b c : Int) (g : GatesD) (r : GateD) (j : Nat) : GateD := ⟨r.kind, fun k => if k < j then placeV g.pub g.sec a b c (r.w k) else r.w k, r.q, r.round⟩
theorem partG_set (a b c : Int) (g : GatesD) (r : GateD) (j : Nat) (h : j < 4) : (gateC (partG a b c g r j)).set (1 + j) (is (placeV g.pub g.sec a b c (r.w j))) = gateC (partG a b c g r (j + 1)) := by
  rcases (show j = 0 ∨ j = 1 ∨ j = 2 ∨ j = 3 by omega) with rfl | rfl | rfl | rfl <;> rfl
/-- what Join keeps in memory -/
structure JS (st s : St) (i2 i4 ir i6 i7 i8 cap : Nat) (fld v p sc a b c : Int) (rs : List GateD) : Prop where
  fr : Fr st s
  b2 : Bx s i2 [is 0, is 0, is 0, is 0, zn]
  b4 : Bx s i4 [is fld, is v, is p, is sc, .slice ir 0 rs.length (some cap) 11]
  own : Own s ir (cap * 11)
  sat : Sat s (.slice ir 0 rs.length (some cap) 11) rs.length 11 (rs.flatMap gateC)
  lt : ir < s.next
  b6 : Bx s i6 [is a]
  b7 : Bx s i7 [is b]
  b8 : Bx s i8 [is c]
variable {i2 i4 ir i6 i7 i8 cap : Nat} {fld v p sc a b c : Int} {rs : List GateD}
theorem JS.go (h : JS st s i2 i4 ir i6 i7 i8 cap fld v p sc a b c rs) (k : Fr s t) : JS st t i2 i4 ir i6 i7 i8 cap fld v p sc a b c rs :=
  ⟨h.fr.trans k, h.b2.fr k, h.b4.fr k, h.own.fr k, h.sat.fr k, Nat.lt_of_lt_of_le h.lt k.next, h.b6.fr k, h.b7.fr k, h.b8.fr k⟩
theorem JS.kp {j : Nat} (h : JS st s i2 i4 ir i6 i7 i8 cap fld v p sc a b c rs) (hw : WfS st) (k : Kp (some j) s t) (hj : st.next ≤ j) (h2 : j ≠ i2) (h4 : j ≠ i4) (hr : j ≠ ir) (h6 : j ≠ i6) (h7 : j ≠ i7) (h8 : j ≠ i8) : JS st t i2 i4 ir i6 i7 i8 cap fld v p sc a b c rs :=
  ⟨k.fr h.fr (fun id he => by cases he; exact hj) hw, h.b2.kp k (by simp; exact h2), h.b4.kp k (by simp; exact h4), h.own.kp k (by simp; exact hr), h.sat.keep k (fun id he => by cases he; simp [sid]; omega), Nat.lt_of_lt_of_le h.lt k.next, h.b6.kp k (by simp; exact h6), h.b7.kp k (by simp; exact h7), h.b8.kp k (by simp; exact h8)⟩
/-- a row appended -/
theorem JS.app (h : JS st s i2 i4 ir i6 i7 i8 cap fld v p sc a b c rs) (hw : WfS st) (ho : i2 < i4 ∧ i4 < ir ∧ ir < i6 ∧ i6 < i7 ∧ i7 < i8) (hst : st.next ≤ i2) (r : GateD) (hc : rs.length + 1 ≤ cap) (hcap : cap ≤ 192000) :
    ∃ s' s2, (∀ (cl : CallK) (ρ : Ev) (K : V → St → R), xA 11 88 (.sc (.slice ir 0 rs.length (some cap) 11)) (.sc (.slice s.next 0 1 (some 1) 11)) cl ρ (new s (gateC r)) K = K (.sc (.slice ir 0 (rs.length + 1) (some cap) 11)) s') ∧
      (∀ K : St → R, sto s' 1 (.sc (.ptr i4 4)) (.sc (.slice ir 0 (rs.length + 1) (some cap) 11)) K = K s2) ∧ JS st s2 i2 i4 ir i6 i7 i8 cap fld v p sc a b c (rs ++ [r]) ∧ (∀ j cs, j ≠ ir → j ≠ i4 → Bx s j cs → Bx s2 j cs) := by
  have f1 : Fr s (new s (gateC r)) := (Fr.refl h.fr.wf).new _
  have hs1 : Sat (new s (gateC r)) (.slice s.next 0 1 (some 1) 11) 1 11 (gateC r) := Sat.new rfl fun m h => by cases h; exact Nat.le_refl _
  have h1 := h.go f1
  obtain ⟨hA, hS⟩ := app_cap (b := 88) (nc := gateC r) h1.sat h1.own (by decide) rfl hc (by omega) (by omega)
  have k1 : Kp (some ir) (new s (gateC r)) (wr (new s (gateC r)) ir (rs.length * 11) (gateC r)) := kp_wr h1.fr.wf h1.lt
  have b4' := h1.b4.kp k1 (by simp; omega)
  have hst4 : ∀ K : St → R, sto (wr (new s (gateC r)) ir (rs.length * 11) (gateC r)) 1 (.sc (.ptr i4 4)) (.sc (.slice ir 0 (rs.length + 1) (some cap) 11)) K = K (wr (wr (new s (gateC r)) ir (rs.length * 11) (gateC r)) i4 4 [.slice ir 0 (rs.length + 1) (some cap) 11]) := fun K => b4'.sto (i := 4) (by simp) _ K
  have k2 := b4'.kpw k1.wf (i := 4) [.slice ir 0 (rs.length + 1) (some cap) 11]
  have b4s := b4'.set (i := 4) (by simp) (.slice ir 0 (rs.length + 1) (some cap) 11)
  refine ⟨_, _, fun cl ρ K => by rw [xA_sat hs1, hA], hst4, ⟨?_, ?_, ?_, ?_, ?_, ?_, ?_, ?_, ?_⟩, fun j cs hj1 hj2 hB => ((hB.fr f1).kp k1 (by simp; omega)).kp k2 (by simp; omega)⟩
  · exact k2.fr (k1.fr h1.fr (fun id he => by cases he; omega) hw) (fun id he => by cases he; omega) hw
  · exact (h1.b2.kp k1 (by simp; omega)).kp k2 (by simp; omega)
  · rw [List.length_append]; exact b4s
  · exact h1.own.wr.kp k2 (by simp; omega)
  · rw [List.length_append, List.flatMap_append]
    have := hS.keep k2 (fun id he => by cases he; simp [sid]; omega)
    simpa using this
  · have := k2.next; have := k1.next; have := h1.lt; omega
  · exact (h1.b6.kp k1 (by simp; omega)).kp k2 (by simp; omega)
  · exact (h1.b7.kp k1 (by simp; omega)).kp k2 (by simp; omega)
  · exact (h1.b8.kp k1 (by simp; omega)).kp k2 (by simp; omega)
end Go.Proofs.YticfndhcbjcklaaDoor.Ev
namespace Go.Proofs.YticfndhcbjcklaaDoor.Ev
set_option linter.unusedSimpArgs false
set_option linter.unusedVariables false
variable {st s t : St} {n i id off : Nat}
/-- what both Joins answer -/
def JoinR (l : List GatesD) (s : St) (v : V) : Prop :=
  ∃ cells e, v = .tup [(true, cells), (false, [is e])] ∧
    ((¬ (l ≠ [] ∧ AllV l) ∧ cells = [is 0, is 0, is 0, is 0, zn] ∧ e = 1) ∨ ((l ≠ [] ∧ AllV l) ∧ ¬ RoomP l ∧ cells = [is 0, is 0, is 0, is 0, zn] ∧ e = 9) ∨
      ((l ≠ [] ∧ AllV l) ∧ RoomP l ∧ e = 0 ∧ ∃ y, cells = [is (lastF l), is (sm GatesD.vars l), is (sm GatesD.pub l), is (sm GatesD.sec l), y] ∧ RepRows s y (joinTo l l.length)))
theorem allV_base {l : List GatesD} (h : AllV l) : ∀ g ∈ l, Base g := fun g hg => by
  obtain ⟨i, hi⟩ := List.getElem?_of_mem hg
  exact (h i g hi).1.base
theorem join_ok (hg : Glo st) {x : S} {l : List GatesD} (hl : RepGs st x l) (h24 : l.length ≤ 24) (hr : ∀ g ∈ l, g.rows.length < 9223372036854775808) :
    Ca (cF F) 12 [.sc x] st (fun v s => Fr st s ∧ JoinR l s v) := by
  refine Ca.of (hf := cf12) rfl rfl [q0] [.cellN n5 q2, .tmp q3] rfl rfl rfl fun Q hQ => ?_
  have hw := hg.wf
  have f1 : Fr st (new st [is 0, is 0, is 0, is 0, zn]) := (Fr.refl hw).new _
  have b2 : Bx (new st [is 0, is 0, is 0, is 0, zn]) st.next [is 0, is 0, is 0, is 0, zn] := Bx.new
  refine Ru.rs fun P hP => ?_
  simp -implicitDefEqProofs (disch := first | decide | omega)
  refine Rg.ret (hP _ _ ?_)
  clear hP P
  generalize new st [is 0, is 0, is 0, is 0, zn] = s1 at *
  have bad : ∀ (Q' : X → Ev → St → Prop) (ρ : Ev) (t : St) (V0 : V) (e : Int), Q' .ret = Q .ret → V0 = iv e → Fr s1 t → ρ q2 = .sc (.ptr st.next 0) → (∀ s, JoinR l s (.tup [(true, [is 0, is 0, is 0, is 0, zn]), (false, [is e])])) → Ru (cF F) (.seq (.reg [q3] fun c r s K => h_op3_build [zi, zi, zi, zi, zn] [] c r s fun v0 s => sto s n5 (r q2) v0 fun s => K [V0] s) .ret) ρ t Q' := fun Q' ρ t V0 e he hV k e2 hn => by
    have b2' := b2.fr k
    have hst : ∀ K : St → R, sto t 5 (V.sc (S.ptr st.next 0)) (.agg [is 0, is 0, is 0, is 0, zn]) K = K (wr t st.next 0 [is 0, is 0, is 0, is 0, zn]) := fun K => b2'.stoN (n := 5) rfl rfl K
    refine Ru.rs fun P hP => ?_
    simp -implicitDefEqProofs (disch := first | decide | omega) [build_eq, fill_nil, e2, hst]
    subst hV
    refine Rg.ret (hP _ _ (Ru.ret (he ▸ hQ _ _ (resP.cellsTmp (n := 4) (id := st.next) (off := 0) (b := is e) ?_ ((b2'.setN (l' := [is 0, is 0, is 0, is 0, zn]) rfl).N rfl) rfl ⟨(b2'.kpw k.wf _).fr (f1.trans k) (fun id h => by cases h; exact Nat.le_refl _) hw, hn _⟩))))
    simp (disch := first | decide | omega) [e2]
  refine Ru.seq (Ru.block (Ru.rs fun P hP => ?_))
  by_cases h0 : l.length = 0
  · simp -implicitDefEqProofs (disch := first | decide | omega) [lnS_sat hl.sat]
    refine Rg.ret (hP _ _ ?_)
    exact Ru.cond rfl (fun _ => bad _ _ _ _ 1 rfl rfl (Fr.refl f1.wf) rfl fun s => ⟨_, _, rfl, .inl ⟨fun hh => hh.1 (List.eq_nil_of_length_eq_zero h0), rfl, rfl⟩⟩) fun h => by cases h
  simp -implicitDefEqProofs (disch := first | decide | omega) [lnS_sat hl.sat]
  refine Rg.call (gvalid_ok (hg.fr f1) (hl.fr f1) (by omega) hr) fun vv s2 hv => ?_
  obtain ⟨k2, bb, rfl, hb1⟩ := hv
  simp -implicitDefEqProofs (disch := first | decide | omega)
  refine Rg.ret (hP _ _ ?_)
  clear hP P
  have f12 := f1.trans k2
  refine Ru.cond rfl (fun h => bad _ _ _ _ 1 rfl rfl k2 rfl fun s => ⟨_, _, rfl, .inl ⟨fun hh => ?_, rfl, rfl⟩⟩) fun h => Ru.rs fun P hP => ?_
  · rw [hb1.2 hh.2] at h; cases h
  simp at h
  have hV := hb1.1 h
  have hne : l ≠ [] ∧ AllV l := ⟨fun hh => h0 (by rw [hh]; rfl), hV⟩
  have hB := allV_base hV
  simp -implicitDefEqProofs (disch := first | decide | omega)
  refine Rg.call (room_ok f12.wf (hl.fr f12) h24 hB) fun vv s3 hv => ?_
  obtain ⟨k3, b3, rfl, hb3⟩ := hv
  simp -implicitDefEqProofs (disch := first | decide | omega)
  refine Rg.ret (hP _ _ ?_)
  clear hP P
  have f13 := f12.trans k3
  refine Ru.cond rfl (fun h => bad _ _ _ _ 9 rfl rfl (k2.trans k3) rfl fun s => ⟨_, _, rfl, .inr (.inl ⟨hne, fun hh => ?_, rfl, rfl⟩)⟩) fun h => Ru.skip ?_
  · rw [hb3.2 hh] at h; cases h
  simp at h
  have hR := hb3.1 h
  simp only [Then, Out]
  clear bad
  have sB := smB h24 hB
  obtain ⟨z1, z2, z3, z4, z5, z6, z7, z8⟩ := sB
  refine Ru.rs fun P hP => ?_
  simp -implicitDefEqProofs (disch := first | decide | omega)
  refine Rg.call (sums_ok f13.wf (hl.fr f13) h24 hB) fun vv s4 hv => ?_
  obtain ⟨k4, rfl⟩ := hv
  have hst : ∀ K : St → R, sto (new s4 [is 0, is 0, is 0, is 0, zn]) 5 (V.sc (S.ptr s4.next 0)) (.agg [is (lastF l), is (sm GatesD.vars l), is (sm GatesD.pub l), is (sm GatesD.sec l), zn]) K = K (wr (new s4 [is 0, is 0, is 0, is 0, zn]) s4.next 0 [is (lastF l), is (sm GatesD.vars l), is (sm GatesD.pub l), is (sm GatesD.sec l), zn]) := fun K => sto_new K rfl rfl
  simp -implicitDefEqProofs (disch := first | decide | omega) [hst]
  refine Rg.ret (hP _ _ ?_)
  clear hP P hst
  have k5 := fr_mk k4.wf [is 0, is 0, is 0, is 0, zn] [is (lastF l), is (sm GatesD.vars l), is (sm GatesD.pub l), is (sm GatesD.sec l), zn]
  have b4 : Bx (wr (new s4 [is 0, is 0, is 0, is 0, zn]) s4.next 0 [is (lastF l), is (sm GatesD.vars l), is (sm GatesD.pub l), is (sm GatesD.sec l), zn]) s4.next [is (lastF l), is (sm GatesD.vars l), is (sm GatesD.pub l), is (sm GatesD.sec l), zn] := Bx.mk' rfl
  have f14 := f13.trans k4
  have f15 := f14.trans k5
  have b2a := b2.fr (k2.trans k3)
  have b2b := (b2a.fr k4)
  have i24 : st.next < s4.next := b2b.lt
  have b2c := b2b.fr k5
  generalize wr (new s4 [is 0, is 0, is 0, is 0, zn]) s4.next 0 [is (lastF l), is (sm GatesD.vars l), is (sm GatesD.pub l), is (sm GatesD.sec l), zn] = s5 at *
  generalize s4.next = i4 at *
  -- the list of rows
  have kmk := fr_mkz (n := (sm rowsN l).toNat) (Fr.refl f15.wf) [bs 0, is 0, is 0, is 0, is 0, us 0, us 0, us 0, us 0, us 0, is 0] 11
  have omk : Own (mkz s5 (sm rowsN l).toNat 11 [bs 0, is 0, is 0, is 0, is 0, us 0, us 0, us 0, us 0, us 0, is 0]) s5.next ((sm rowsN l).toNat * 11) := own_mkz _ _
  have b4b := b4.fr kmk
  have irl : s5.next < (mkz s5 (sm rowsN l).toNat 11 [bs 0, is 0, is 0, is 0, is 0, us 0, us 0, us 0, us 0, us 0, is 0]).next := by rw [next_mkz]; omega
  have i4r : i4 < s5.next := b4.lt
  refine Ru.rs fun P hP => ?_
  have hxM : ∀ (cl : CallK) (ρ : Ev) (K : V → St → R), xM 11 88 [bs 0, is 0, is 0, is 0, is 0, us 0, us 0, us 0, us 0, us 0, is 0] (iv 0) (iv (sm rowsN l)) cl ρ s5 K = K (.sc (.slice s5.next 0 0 (some (sm rowsN l).toNat) 11)) (mkz s5 (sm rowsN l).toNat 11 [bs 0, is 0, is 0, is 0, is 0, us 0, us 0, us 0, us 0, us 0, is 0]) := fun cl ρ K => xM_eq' 11 88 0 (sm rowsN l) _ cl ρ K (by omega) (by omega) (by omega) (by omega)
  simp -implicitDefEqProofs (disch := first | decide | omega) [hxM, b4b.sto (i := 4) (by simp)]
  refine Rg.ret (hP _ _ ?_)
  clear hP P hxM
  have k6 := b4b.kpw kmk.wf (i := 4) [.slice s5.next 0 0 (some (sm rowsN l).toNat) 11]
  have b4c := b4b.set (i := 4) (by simp) (.slice s5.next 0 0 (some (sm rowsN l).toNat) 11)
  simp only [List.set] at b4c
  have own6 := omk.wr (id := i4) (off := 4) (l := [.slice s5.next 0 0 (some (sm rowsN l).toNat) 11])
  have f16 := k6.fr (f15.trans kmk) (fun id h => by cases h; omega) hw
  have b2d := (b2c.fr kmk).kp k6 (by simp; omega)
  have ir6 : s5.next < (wr (mkz s5 (sm rowsN l).toNat 11 [bs 0, is 0, is 0, is 0, is 0, us 0, us 0, us 0, us 0, us 0, is 0]) i4 4 [.slice s5.next 0 0 (some (sm rowsN l).toNat) 11]).next := by rw [wr_next]; exact irl
  clear kmk omk irl b4b k6 b2a b2b b2c b4 b2
  generalize wr (mkz s5 (sm rowsN l).toNat 11 [bs 0, is 0, is 0, is 0, is 0, us 0, us 0, us 0, us 0, us 0, is 0]) i4 4 [.slice s5.next 0 0 (some (sm rowsN l).toNat) 11] = s6 at *
  generalize s5.next = ir at *
  -- three variables that the closure captures
  have ks := (((Fr.refl f16.wf).new [is 0]).new [is 0]).new [is 0]
  have b4d := b4c.fr ks
  have x6 : Bx (new (new (new s6 [is 0]) [is 0]) [is 0]) s6.next [is 0] := ((Bx.new (s := s6) (l := [is 0])).fr (((Fr.refl ((Fr.refl f16.wf).new [is 0]).wf).new [is 0]).new [is 0]))
  have x7 : Bx (new (new (new s6 [is 0]) [is 0]) [is 0]) (s6.next + 1) [is 0] := ((Bx.new (s := new s6 [is 0]) (l := [is 0])).fr ((Fr.refl (((Fr.refl f16.wf).new [is 0]).new [is 0]).wf).new [is 0]))
  have x8 : Bx (new (new (new s6 [is 0]) [is 0]) [is 0]) (s6.next + 1 + 1) [is 0] := Bx.new (s := new (new s6 [is 0]) [is 0]) (l := [is 0])
  have i46 : i4 < s6.next := by omega
  refine Ru.ds fun P hP => ?_
  have kw6 := x6.kpw ks.wf (i := 0) [is 0]
  have x7a := x7.kp kw6 (ne_some (by omega))
  have x8a := x8.kp kw6 (ne_some (by omega))
  have kw7 := x7a.kpw kw6.wf (i := 0) [is (sm GatesD.pub l)]
  have x8b := x8a.kp kw7 (ne_some (by omega))
  have kw8 := x8b.kpw kw7.wf (i := 0) [is (sm GatesD.pub l + sm GatesD.sec l)]
  have x6b := ((x6.set (i := 0) (by simp) (is 0)).kp kw7 (ne_some (by omega))).kp kw8 (ne_some (by omega))
  have x7b := (x7a.set (i := 0) (by simp) (is (sm GatesD.pub l))).kp kw8 (ne_some (by omega))
  have x8c := x8b.set (i := 0) (by simp) (is (sm GatesD.pub l + sm GatesD.sec l))
  simp -implicitDefEqProofs (disch := first | decide | omega | (apply okS_t; decide; (simp (decide := true) <;> omega))) [b4c.rd 2 _ rfl, b4c.rd 3 _ rfl, dS_ok x6.own, dS_ok x7a.own, dS_ok x8b.own]
  refine Rg.ret (hP _ _ ?_)
  clear hP P
  have J0 : JS st (wr (wr (wr (new (new (new s6 [is 0]) [is 0]) [is 0]) s6.next 0 [is 0]) (s6.next + 1) 0 [is (sm GatesD.pub l)]) (s6.next + 1 + 1) 0 [is (sm GatesD.pub l + sm GatesD.sec l)]) st.next i4 ir s6.next (s6.next + 1) (s6.next + 1 + 1) (sm rowsN l).toNat (lastF l) (sm GatesD.vars l) (sm GatesD.pub l) (sm GatesD.sec l) (aI l 0) (bI l 0) (cI l 0) (joinTo l 0) := by
    have kA := kw6.fr (f16.trans ks) (fun id he => by cases he; omega) hw
    have kB := kw7.fr kA (fun id he => by cases he; omega) hw
    have kC := kw8.fr kB (fun id he => by cases he; omega) hw
    have oo := ((own6.fr ks).kp kw6 (ne_some (by omega))).kp kw7 (ne_some (by omega)) |>.kp kw8 (ne_some (by omega))
    refine ⟨kC, ((((b2d.fr ks).kp kw6 (ne_some (by omega))).kp kw7 (ne_some (by omega))).kp kw8 (ne_some (by omega))), (((b4d.kp kw6 (ne_some (by omega))).kp kw7 (ne_some (by omega))).kp kw8 (ne_some (by omega))), oo, ?_, ?_, x6b, ?_, ?_⟩
    · exact sat_of_rd oo rfl (fun m hm => by cases hm; exact Nat.zero_le _) fun i x hx => by simp [joinTo] at hx
    · rw [wr_next, wr_next, wr_next]; simp only [next_new]; omega
    · have : bI l 0 = sm GatesD.pub l := by unfold bI; simp [sm]
      rw [this]; exact x7b
    · have : cI l 0 = sm GatesD.pub l + sm GatesD.sec l := by unfold cI; simp [sm]
      rw [this]; exact x8c
  have hcapI : ((sm rowsN l).toNat : Int) = sm rowsN l := by omega
  clear kw6 kw7 kw8 x6 x7 x8 x7a x8a x8b x6b x7b x8c ks b4c b4d own6 b2d
  generalize wr (wr (wr (new (new (new s6 [is 0]) [is 0]) [is 0]) s6.next 0 [is 0]) (s6.next + 1) 0 [is (sm GatesD.pub l)]) (s6.next + 1 + 1) 0 [is (sm GatesD.pub l + sm GatesD.sec l)] = s7 at *
  generalize hi6 : s6.next = i6 at *
  generalize hcap : (sm rowsN l).toNat = cap at *
  have ho : st.next < i4 ∧ i4 < ir ∧ ir < i6 ∧ i6 < i6 + 1 ∧ i6 + 1 < i6 + 1 + 1 := by omega
  refine Ru.seq (Ru.rs fun P hP => ?_)
  simp -implicitDefEqProofs (disch := first | decide | omega) [lnS_sat (hl.fr J0.fr).sat]
  refine Rg.ret (hP _ _ ?_)
  clear hP P
  refine Ru.at (fun ρ => ρ q2 = .sc (.ptr st.next 0) ∧ ρ q4 = .sc (.ptr i4 0) ∧ ρ q6 = .sc (.ptr i6 0) ∧ ρ q7 = .sc (.ptr (i6 + 1) 0) ∧ ρ q8 = .sc (.ptr (i6 + 1 + 1) 0) ∧ ρ q46 = .sc x ∧ ρ q47 = iv l.length ∧ ρ q48 = iv 0) ⟨rfl, rfl, rfl, rfl, rfl, rfl, rfl, rfl⟩ fun ρ1 hE => ?_
  obtain ⟨e2, e4, e6, e7, e8, e46, e47, e48⟩ := hE
  refine Ru.block (Ru.lp [q2, q4, q6, q7, q8, q46, q47] (fun i : Nat => l.length - i) (fun i ρ s => i ≤ l.length ∧ ρ q48 = iv i ∧ JS st s st.next i4 ir i6 (i6 + 1) (i6 + 1 + 1) cap (lastF l) (sm GatesD.vars l) (sm GatesD.pub l) (sm GatesD.sec l) (aI l i) (bI l i) (cI l i) (joinTo l i))
    ⟨0, by omega, e48, J0⟩ fun i ρ s hk hI => ?_)
  clear e48 J0
  obtain ⟨hi, e48, J⟩ := hI
  refine Ru.rs fun P hP => ?_
  simp -implicitDefEqProofs (disch := first | decide | omega) [hk.e, e47, e48]
  refine Rg.ret (hP _ _ ?_)
  clear hP P
  refine Ru.seq (Ru.cond rfl (fun h => Ru.skip ?_) fun h => Ru.exit ?_)
  rotate_left
  · simp at h
    have : i = l.length := by omega
    subst this
    simp only [Then, Out, if_true]
    have hlen : (joinTo l l.length).length = cap := by have := joinTo_len l l.length (Nat.le_refl _); rw [List.take_length] at this; omega
    have hsN : ∀ K : St → R, sto s 5 (V.sc (S.ptr st.next 0)) (.agg [is (lastF l), is (sm GatesD.vars l), is (sm GatesD.pub l), is (sm GatesD.sec l), .slice ir 0 (joinTo l l.length).length (some cap) 11]) K = K (wr s st.next 0 [is (lastF l), is (sm GatesD.vars l), is (sm GatesD.pub l), is (sm GatesD.sec l), .slice ir 0 (joinTo l l.length).length (some cap) 11]) := fun K => J.b2.stoN (n := 5) rfl rfl K
    refine Ru.rs fun P hP => ?_
    simp -implicitDefEqProofs (disch := first | decide | omega) [hk.e, e2, e4, J.b4.N (n := 5) rfl, hsN]
    have kw := J.b2.kpw J.fr.wf (i := 0) [is (lastF l), is (sm GatesD.vars l), is (sm GatesD.pub l), is (sm GatesD.sec l), .slice ir 0 (joinTo l l.length).length (some cap) 11]
    refine Rg.ret (hP _ _ (Ru.ret (hQ _ _ (resP.cellsTmp (n := 4) (id := st.next) (off := 0) (b := is 0) ?_ ((J.b2.setN (l' := [is (lastF l), is (sm GatesD.vars l), is (sm GatesD.pub l), is (sm GatesD.sec l), .slice ir 0 (joinTo l l.length).length (some cap) 11]) rfl).N rfl) rfl ⟨kw.fr J.fr (fun id h => by cases h; exact Nat.le_refl _) hw, ?_⟩))))
    · simp (disch := first | decide | omega) [hk.e, e2]
    · exact ⟨_, _, rfl, .inr (.inr ⟨hne, hR, rfl, _, rfl, J.sat.keep kw fun id he => by cases he; simp [sid]; omega⟩)⟩
  simp at h
  have hlt : i < l.length := by omega
  have hgi := List.getElem?_eq_getElem hlt
  have hmem := List.getElem_mem hlt
  generalize l[i] = g at hgi hmem
  obtain ⟨rid, ro, hix, hgc, _⟩ := elt (f := gC) (z := 5) (fun _ => rfl) (hl.fr J.fr).sat hgi
  have hgN : rdN s rid ro 5 = some (gC g) := rdN_get rfl hgc
  have hst : ∀ K : St → R, sto (new s [is 0, is 0, is 0, is 0, zn]) 5 (V.sc (S.ptr s.next 0)) (.agg (gC g)) K = K (wr (new s [is 0, is 0, is 0, is 0, zn]) s.next 0 (gC g)) := fun K => sto_new K rfl rfl
  refine Ru.seq (Ru.block (Ru.rs fun P hP => ?_))
  simp -implicitDefEqProofs (disch := first | decide | omega) [hk.e, e46, e48, hix, hgN, hst]
  clear hst
  have k3 := fr_mk J.fr.wf [is 0, is 0, is 0, is 0, zn] (gC g)
  have b10 : Bx (wr (new s [is 0, is 0, is 0, is 0, zn]) s.next 0 (gC g)) s.next (gC g) := Bx.mk' rfl
  refine Rg.ret (hP _ _ ?_)
  clear hP P
  have J1 := J.go k3
  have i810 : i6 + 1 + 1 < s.next := J.b8.lt
  clear J hgN hgc
  generalize wr (new s [is 0, is 0, is 0, is 0, zn]) s.next 0 (gC g) = sA at *
  generalize s.next = i10 at *
  have hBg := hB g hmem
  have hVg := (hV i g hgi).1
  have hoth : ∀ g ∈ l, 0 ≤ othN g ∧ othN g ≤ 40000 := fun g hg => by
    have h := hB g hg; have h1 := h.p0; have h2 := h.s0; have h3 := h.v0; have h4 := h.v1
    show 0 ≤ g.vars - g.pub - g.sec ∧ g.vars - g.pub - g.sec ≤ 40000
    omega
  have sBi := smB (l := l.take i) (by rw [List.length_take]; omega) fun g hg => hB g (List.mem_of_mem_take hg)
  have oc0 := sm_ge (f := othN) (l := l.take i) fun g hg => (hoth g (List.mem_of_mem_take hg)).1
  have oc1 := sm_le (f := othN) (b := 40000) (l := l.take i) fun g hg => (hoth g (List.mem_of_mem_take hg)).2
  have ltk : (l.take i).length ≤ 24 := by rw [List.length_take]; omega
  have ha : 0 ≤ aI l i ∧ aI l i ≤ 1000000 := by have := sBi.p0; have := sBi.p1; unfold aI; omega
  have hb' : 0 ≤ bI l i ∧ bI l i ≤ 1000000 := by have := sBi.s0; have := sBi.s1; unfold bI; omega
  have hc' : 0 ≤ cI l i ∧ cI l i ≤ 2000000 := by unfold cI; omega
  have hrn := sm_split (f := rowsN) hgi fun g hg => by show (0 : Int) ≤ g.rows.length; omega
  have hjl := joinTo_len l i (by omega)
  refine Ru.rs fun P hP => ?_
  have hmk : ∀ (a b c d : S) (cl : CallK) (r : Ev) (K : V → St → R), h_op4_makeFunc 31 [.c (.sc a), .c (.sc b), .c (.sc c), .c (.sc d)] cl r sA K = K (.sc (capsOf 31 [a, b, c, d])) sA := fun a b c d cl r K => rfl
  simp -implicitDefEqProofs (disch := first | decide | omega) [hk.e, e6, e7, e8, hmk]
  refine Rg.ret (hP _ _ ?_)
  clear hP P hmk
  have hrr := hl.fr J1.fr |>.rows g hmem
  refine Ru.seq (Ru.rs fun P hP => ?_)
  simp -implicitDefEqProofs (disch := first | decide | omega) [hk.e, b10.rd 4 _ rfl, lnS_sat hrr]
  refine Rg.ret (hP _ _ ?_)
  clear hP P
  refine Ru.at (fun ρ' => Keep [q2, q4, q6, q7, q8, q46, q47] ρ' ρ1 ∧ ρ' q48 = iv i ∧ ρ' q10 = .sc (.ptr i10 0) ∧ ρ' q11 = .sc (capsOf 31 [.ptr i10 0, .ptr i6 0, .ptr (i6 + 1) 0, .ptr (i6 + 1 + 1) 0]) ∧ ρ' q54 = .sc g.sl ∧ ρ' q55 = iv g.rows.length ∧ ρ' q56 = iv 0) ⟨by repeat first | exact hk | refine Keep.up (by rfl) ?_, by simp (disch := first | decide | omega) [e48], rfl, rfl, rfl, rfl, rfl⟩ fun ρ2 hE => ?_
  clear hk e48 ρ
  obtain ⟨hk, e48, e10, e11, e54, e55, e56⟩ := hE
  refine Ru.block (Ru.lp [q2, q4, q6, q7, q8, q46, q47, q48, q10, q11, q54, q55] (fun k : Nat => g.rows.length - k) (fun k ρ s => k ≤ g.rows.length ∧ ρ q56 = iv k ∧ Bx s i10 (gC g) ∧ JS st s st.next i4 ir i6 (i6 + 1) (i6 + 1 + 1) cap (lastF l) (sm GatesD.vars l) (sm GatesD.pub l) (sm GatesD.sec l) (aI l i) (bI l i) (cI l i) (joinTo l i ++ (g.rows.take k).map (mvd l i g)))
    ⟨0, by omega, e56, b10, by simpa using J1⟩ fun k ρ s hk2 hI => ?_)
  clear e56 J1 b10 hrr
  obtain ⟨hkl, e56, b10, J⟩ := hI
  refine Ru.rs fun P hP => ?_
  simp -implicitDefEqProofs (disch := first | decide | omega) [hk2.e, e55, e56]
  refine Rg.ret (hP _ _ ?_)
  clear hP P
  refine Ru.seq (Ru.cond rfl (fun h => Ru.skip ?_) fun h => Ru.exit ?_)
  · simp at h
    have hlt2 : k < g.rows.length := by omega
    obtain ⟨row, hrk, hfm, _⟩ := hVg.rows k hlt2
    obtain ⟨rid, ro, hix, hgc, hrs⟩ := elt (f := gateC) (z := 11) (fun _ => rfl) ((hl.fr J.fr).rows g hmem) hrk
    have hgN : rdN s rid ro 11 = some (gateC row) := rdN_get rfl hgc
    have hst : ∀ K : St → R, sto (new s [bs 0, is 0, is 0, is 0, is 0, us 0, us 0, us 0, us 0, us 0, is 0]) 11 (V.sc (S.ptr s.next 0)) (.agg (gateC row)) K = K (wr (new s [bs 0, is 0, is 0, is 0, is 0, us 0, us 0, us 0, us 0, us 0, is 0]) s.next 0 (gateC row)) := fun K => sto_new K rfl rfl
    refine Ru.seq (Ru.block (Ru.rs fun P hP => ?_))
    simp -implicitDefEqProofs (disch := first | decide | omega) [hk2.e, e54, e56, hix, hgN, hst]
    clear hst
    have k3 := fr_mk J.fr.wf [bs 0, is 0, is 0, is 0, is 0, us 0, us 0, us 0, us 0, us 0, is 0] (gateC row)
    have b13 : Bx (wr (new s [bs 0, is 0, is 0, is 0, is 0, us 0, us 0, us 0, us 0, us 0, is 0]) s.next 0 (gateC row)) s.next (gateC row) := Bx.mk' rfl
    refine Rg.ret (hP _ _ ?_)
    clear hP P
    have J1 := J.go k3
    have b10a := b10.fr k3
    have i1013 : i10 < s.next := b10.lt
    have i813 : i6 + 1 + 1 < s.next := J.b8.lt
    have irl := J.lt
    clear J b10 hgN hgc
    generalize wr (new s [bs 0, is 0, is 0, is 0, is 0, us 0, us 0, us 0, us 0, us 0, is 0]) s.next 0 (gateC row) = sB at *
    generalize s.next = i13 at *
    have hw4 : rdN sB i13 1 4 = some [is (row.w 0), is (row.w 1), is (row.w 2), is (row.w 3)] := rdN_get rfl fun j x hx => by
      have hj : j < 4 := by have := (List.getElem?_eq_some_iff.1 hx).1; simpa using this
      refine b13.rd (1 + j) x ?_
      rcases (show j = 0 ∨ j = 1 ∨ j = 2 ∨ j = 3 by omega) with rfl | rfl | rfl | rfl <;> exact hx
    refine Ru.seq (Ru.rs fun P hP => ?_)
    simp -implicitDefEqProofs (disch := first | decide | omega) [hw4]
    refine Rg.ret (hP _ _ ?_)
    clear hP P hw4
    refine Ru.at (fun ρ' => Keep [q2, q4, q6, q7, q8, q46, q47, q48, q10, q11, q54, q55] ρ' ρ2 ∧ ρ' q56 = iv k ∧ ρ' q13 = .sc (.ptr i13 0) ∧ ρ' q61 = .agg [is (row.w 0), is (row.w 1), is (row.w 2), is (row.w 3)] ∧ ρ' q62 = iv 0) ⟨by repeat first | exact hk2 | refine Keep.up (by rfl) ?_, by simp (disch := first | decide | omega) [e56], rfl, rfl, rfl⟩ fun ρ3 hE => ?_
    clear hk2 e56 ρ
    obtain ⟨hk2, e56, e13, e61, e62⟩ := hE
    have mr : ∀ j, j < 4 → [is (row.w 0), is (row.w 1), is (row.w 2), is (row.w 3)][j]? = some (is (row.w j)) := fun j hj => by
      rcases (show j = 0 ∨ j = 1 ∨ j = 2 ∨ j = 3 by omega) with rfl | rfl | rfl | rfl <;> rfl
    refine (Ru.imp (Q := fun x ρ u => x = .normal ∧ Keep [q2, q4, q6, q7, q8, q46, q47, q48, q10, q11, q54, q55, q56, q13] ρ ρ3 ∧ Bx u i10 (gC g) ∧ Bx u i13 (gateC (mvd l i g row)) ∧ JS st u st.next i4 ir i6 (i6 + 1) (i6 + 1 + 1) cap (lastF l) (sm GatesD.vars l) (sm GatesD.pub l) (sm GatesD.sec l) (aI l i) (bI l i) (cI l i) (joinTo l i ++ (g.rows.take k).map (mvd l i g))) ?_ fun x ρ u hx => ?_)
    · refine Ru.block (Ru.lp [q2, q4, q6, q7, q8, q46, q47, q48, q10, q11, q54, q55, q56, q13, q61] (fun j : Nat => 4 - j) (fun j ρ u => j ≤ 4 ∧ ρ q62 = iv j ∧ Bx u i10 (gC g) ∧ Bx u i13 (gateC (partG (aI l i) (bI l i) (cI l i) g row j)) ∧ JS st u st.next i4 ir i6 (i6 + 1) (i6 + 1 + 1) cap (lastF l) (sm GatesD.vars l) (sm GatesD.pub l) (sm GatesD.sec l) (aI l i) (bI l i) (cI l i) (joinTo l i ++ (g.rows.take k).map (mvd l i g)))
        ⟨0, by omega, e62, b10a, b13, J1⟩ fun j ρ u hk3 hI => ?_)
      clear e62 b10a b13 J1
      obtain ⟨hj, e62, b10, b13, J⟩ := hI
      refine Ru.rs fun P hP => ?_
      simp -implicitDefEqProofs (disch := first | decide | omega) [e62]
      refine Rg.ret (hP _ _ ?_)
      clear hP P
      refine Ru.seq (Ru.cond rfl (fun h => Ru.skip ?_) fun h => Ru.exit ?_)
      rotate_left
      · simp at h
        have : j = 4 := by omega
        subst this
        simp only [Then, Out, if_true]
        exact ⟨trivial, by repeat first | exact .via (by rfl) hk3 (.refl _ _) | refine Keep.up (by rfl) ?_, b10, b13, J⟩
      simp at h
      have hj4 : j < 4 := by omega
      have hwj := hfm.2.2.2.2.2.2 j hj4
      have hv1 := hBg.v1
      refine Ru.seq (Ru.block (Ru.rs fun P hP => ?_))
      simp -implicitDefEqProofs (disch := first | decide | omega) [hk3.e, e61, e62, idxV_sc _ _ _ hj4 (mr j hj4)]
      refine Rg.ret (hP _ _ ?_)
      clear hP P
      refine Ru.r1 fun P hP => ?_
      have b13s : ∀ (x : Int) (K : St → R), sto u 1 (V.sc (S.ptr i13 (1 + j))) (.sc (is x)) K = K (wr u i13 (1 + j) [is x]) := fun x K => b13.sto (i := 1 + j) (by simp; omega) _ K
      simp -implicitDefEqProofs (disch := first | decide | omega) [hk3.e, hk2.e, e11, e13, callV_cap 31 rfl]
      refine Rg.call (place_ok J.fr.wf g (aI l i) (bI l i) (cI l i) (row.w j) hBg ha hb' hc' ⟨hwj.1, by omega⟩ b10.rd (J.b6.rd 0 _ rfl) (J.b7.rd 0 _ rfl) (J.b8.rd 0 _ rfl)) fun v s' hv => ?_
      obtain ⟨hs', rfl⟩ := hv
      subst s'
      simp -implicitDefEqProofs (disch := first | decide | omega) [b13s]
      refine Rg.ret (hP _ _ ?_)
      clear hP P
      simp only [Then, Out]
      have kw := b13.kpw J.fr.wf (i := 1 + j) [is (placeV g.pub g.sec (aI l i) (bI l i) (cI l i) (row.w j))]
      have b13' := b13.set (i := 1 + j) (by simp; omega) (is (placeV g.pub g.sec (aI l i) (bI l i) (cI l i) (row.w j)))
      have hset : (gateC (partG (aI l i) (bI l i) (cI l i) g row j)).set (1 + j) (is (placeV g.pub g.sec (aI l i) (bI l i) (cI l i) (row.w j))) = gateC (partG (aI l i) (bI l i) (cI l i) g row (j + 1)) := partG_set _ _ _ _ _ _ hj4
      rw [hset] at b13'
      refine Ru.r1 fun P hP => ?_
      simp -implicitDefEqProofs (disch := first | decide | omega) [e62]
      exact Rg.ret (hP _ _ ⟨by repeat first | exact hk3 | refine Keep.up (by rfl) ?_, j + 1, by omega, by omega, rfl, b10.kp kw (ne_some (by omega)), b13', J.kp hw kw (by omega) (by omega) (by omega) (by omega) (by omega) (by omega) (by omega)⟩)
    obtain ⟨rfl, hk3, b10, b13, J⟩ := hx
    have hlk : (joinTo l i ++ (g.rows.take k).map (mvd l i g)).length = (joinTo l i).length + k := by
      rw [List.length_append, List.length_map, List.length_take]; omega
    have hrw : rowsN g = (g.rows.length : Int) := rfl
    obtain ⟨s', s2, hA, hS, J2, hBx⟩ := J.app hw (by omega) (Nat.le_refl _) (mvd l i g row) (by omega) (by omega)
    have hbN := b13.N (n := 11) rfl
    have hfill : ∀ tm K, fillK tm K [(0, 11, .c (.agg (gateC (mvd l i g row))))] [bs 0, is 0, is 0, is 0, is 0, us 0, us 0, us 0, us 0, us 0, is 0] = K (gateC (mvd l i g row)) := fun tm K => (fill_agg tm K _ 0 (gateC (mvd l i g row)) 11 [] rfl (by simp)).trans (by rw [fill_nil]; rfl)
    simp only [Then]
    refine Ru.r1 fun P hP => ?_
    have hrs1 : joinTo l i ++ (g.rows.take (k + 1)).map (mvd l i g) = (joinTo l i ++ (g.rows.take k).map (mvd l i g)) ++ [mvd l i g row] := by
      rw [List.take_add_one, hrk, List.map_append, List.append_assoc]; rfl
    generalize joinTo l i ++ (g.rows.take k).map (mvd l i g) = rs at *
    simp -implicitDefEqProofs (disch := first | decide | omega) [hk3.e, hk2.e, hk.e, e4, e13, J.b4.rd 4 _ rfl, hbN, buildS_eq, hfill, hA, hS]
    refine Rg.ret (hP _ _ ?_)
    clear hP P
    simp only [Then, Out]
    refine Ru.r1 fun P hP => ?_
    simp -implicitDefEqProofs (disch := first | decide | omega) [hk3.e, e56]
    refine Rg.ret (hP _ _ ⟨by repeat first | exact .via (by rfl) hk3 hk2 | refine Keep.up (by rfl) ?_, k + 1, by omega, by omega, rfl, hBx _ _ (by omega) (by omega) b10, ?_⟩)
    rw [hrs1]; exact J2
  simp at h
  have hkl' : k = g.rows.length := by omega
  subst hkl'
  rw [List.take_length, ← joinTo_succ hgi] at J
  simp only [Then, Out, if_true]
  have i108 : i6 + 1 + 1 < i10 := i810
  have kw6 := J.b6.kpw J.fr.wf (i := 0) [is (aI l i + g.pub)]
  have x7 := J.b7.kp kw6 (ne_some (by omega))
  have kw7 := x7.kpw kw6.wf (i := 0) [is (bI l i + g.sec)]
  have x8 := (J.b8.kp kw6 (ne_some (by omega))).kp kw7 (ne_some (by omega))
  have kw8 := x8.kpw kw7.wf (i := 0) [is (cI l i + g.vars - g.pub - g.sec)]
  have hBg' := hBg
  obtain ⟨_, _, w1, w2, w3, w4, w5, w6, w7⟩ := hBg'
  refine Ru.d1 fun P hP => ?_
  simp -implicitDefEqProofs (disch := first | decide | omega | (apply okS_t; decide; (simp (decide := true) <;> omega))) [hk2.e, hk.e, e6, e7, e8, e10, J.b6.rd 0 _ rfl, J.b7.rd 0 _ rfl, J.b8.rd 0 _ rfl, b10.rd 1 _ rfl, b10.rd 2 _ rfl, b10.rd 3 _ rfl, dS_ok (n := 1) J.b6.own, dS_ok (n := 1) x7.own, dS_ok (n := 1) x8.own]
  refine Rg.ret (hP _ _ ?_)
  clear hP P
  simp only [Then, Out]
  have hfin : JS st (wr (wr (wr s i6 0 [is (aI l i + g.pub)]) (i6 + 1) 0 [is (bI l i + g.sec)]) (i6 + 1 + 1) 0 [is (cI l i + g.vars - g.pub - g.sec)]) st.next i4 ir i6 (i6 + 1) (i6 + 1 + 1) cap (lastF l) (sm GatesD.vars l) (sm GatesD.pub l) (sm GatesD.sec l) (aI l (i + 1)) (bI l (i + 1)) (cI l (i + 1)) (joinTo l (i + 1)) := by
    have kA := kw6.fr J.fr (fun id he => by cases he; omega) hw
    have kB := kw7.fr kA (fun id he => by cases he; omega) hw
    have kC := kw8.fr kB (fun id he => by cases he; omega) hw
    have n6 : ir ≠ i6 := by omega
    refine ⟨kC, ((J.b2.kp kw6 (ne_some (by omega))).kp kw7 (ne_some (by omega))).kp kw8 (ne_some (by omega)), ((J.b4.kp kw6 (ne_some (by omega))).kp kw7 (ne_some (by omega))).kp kw8 (ne_some (by omega)), ((J.own.kp kw6 (ne_some (by omega))).kp kw7 (ne_some (by omega))).kp kw8 (ne_some (by omega)), ?_, ?_, ?_, ?_, ?_⟩
    · exact ((J.sat.keep kw6 fun id he => by cases he; simp [sid]; omega).keep kw7 fun id he => by cases he; simp [sid]; omega).keep kw8 fun id he => by cases he; simp [sid]; omega
    · have := J.lt; have := kw6.next; have := kw7.next; have := kw8.next; omega
    · have e : aI l (i + 1) = aI l i + g.pub := by unfold aI; rw [sm_take hgi]
      rw [e]
      exact ((J.b6.set (i := 0) (by simp) (is (aI l i + g.pub))).kp kw7 (ne_some (by omega))).kp kw8 (ne_some (by omega))
    · have e : bI l (i + 1) = bI l i + g.sec := by unfold bI; rw [sm_take hgi]; omega
      rw [e]
      exact (x7.set (i := 0) (by simp) (is (bI l i + g.sec))).kp kw8 (ne_some (by omega))
    · have e : cI l (i + 1) = cI l i + g.vars - g.pub - g.sec := by
        unfold cI; rw [sm_take hgi]
        have : othN g = g.vars - g.pub - g.sec := rfl
        omega
      rw [e]
      exact x8.set (i := 0) (by simp) (is (cI l i + g.vars - g.pub - g.sec))
  refine Ru.r1 fun P hP => ?_
  simp -implicitDefEqProofs (disch := first | decide | omega) [hk2.e, e48]
  exact Rg.ret (hP _ _ ⟨by repeat first | exact .via (by rfl) hk2 hk | refine Keep.up (by rfl) ?_, i + 1, by omega, by omega, rfl, hfin⟩)
end Go.Proofs.YticfndhcbjcklaaDoor.Ev
