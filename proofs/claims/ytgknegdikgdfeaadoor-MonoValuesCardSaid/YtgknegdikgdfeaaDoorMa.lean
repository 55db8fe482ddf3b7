/- What the listed package variables hold, and the evaluator's runs, by the kernel; no conditions. -/
import Derived.Test.YtgknegdikgdfeaaDoorE
import Derived.Test.YtgknegdikgdfeaaDoorEvD
import Derived.Test.YtgknegdikgdfeaaDoorL
import Derived.Test.YtgknegdikgdfeaaDoorChecked
namespace Go.Proofs.YtgknegdikgdfeaaDoor.Ev
set_option linter.unusedSimpArgs false
set_option linter.unusedVariables false
/-! lists in memory -/
theorem lnS_sl {s : S} {n id off e : Nat} (h : IsSl s n id off e) (K : V → R) : lnS (.sc s) K = K (iv n) := by
  rcases h with ⟨c, rfl⟩ | ⟨rfl, rfl | rfl⟩ <;> rfl
theorem ixs_sl {s : S} {n id off e : Nat} (h : IsSl s n id off e) {i : Nat} (hi : i < n) (K : V → R) : ixs e (.sc s) (iv i) K = K (.sc (.ptr id (off + i * e))) := by
  rcases h with ⟨c, rfl⟩ | ⟨rfl, _⟩
  · rw [ixs_eq _ _ (by omega) (by omega)]; simp
  · omega
structure VarD where
  kind : Nat
  index : Int
structure MonoD where
  coef : Nat
  vars : List VarD
def RepVars (st : St) (s : S) (l : List VarD) : Prop := ∃ id off, IsSl s l.length id off 2 ∧ ∀ i v, l[i]? = some v → rd st id (off + i * 2) = some (bs v.kind) ∧ rd st id (off + i * 2 + 1) = some (is v.index)
def RepSum (st : St) (s : S) (l : List MonoD) : Prop := ∃ id off, IsSl s l.length id off 2 ∧ ∀ i m, l[i]? = some m → rd st id (off + i * 2) = some (us m.coef) ∧ ∃ s', rd st id (off + i * 2 + 1) = some s' ∧ RepVars st s' m.vars
def RepNs (st : St) (s : S) (l : List Nat) : Prop := ∃ id off, IsSl s l.length id off 1 ∧ ∀ i n, l[i]? = some n → rd st id (off + i * 1) = some (us n)
theorem RepVars.fr {st t : St} {s : S} {l : List VarD} (h : RepVars st s l) (k : Fr st t) : RepVars t s l := by
  obtain ⟨id, off, h1, h2⟩ := h
  exact ⟨id, off, h1, fun i v hv => ⟨k.rd (h2 i v hv).1, k.rd (h2 i v hv).2⟩⟩
theorem RepSum.fr {st t : St} {s : S} {l : List MonoD} (h : RepSum st s l) (k : Fr st t) : RepSum t s l := by
  obtain ⟨id, off, h1, h2⟩ := h
  refine ⟨id, off, h1, fun i m hm => ⟨k.rd (h2 i m hm).1, ?_⟩⟩
  obtain ⟨_, s', h3, h4⟩ := h2 i m hm
  exact ⟨s', k.rd h3, h4.fr k⟩
theorem RepNs.fr {st t : St} {s : S} {l : List Nat} (h : RepNs st s l) (k : Fr st t) : RepNs t s l := by
  obtain ⟨id, off, h1, h2⟩ := h
  exact ⟨id, off, h1, fun i n hn => k.rd (h2 i n hn)⟩
/-- an environment: seven lists -/
structure EnvR (st : St) (e : Nat → S) (l : Nat → List Nat) : Prop where
  rep : ∀ i, i < 7 → RepNs st (e i) (l i)
theorem EnvR.fr {st t : St} {e : Nat → S} {l : Nat → List Nat} (h : EnvR st e l) (k : Fr st t) : EnvR t e l := ⟨fun i hi => (h.rep i hi).fr k⟩
abbrev envV (e : Nat → S) : List S := [e 0, e 1, e 2, e 3, e 4, e 5, e 6]
/-- the list of a kind -/
def kindS (e : Nat → S) (k : Nat) : S := if 1 ≤ k ∧ k ≤ 7 then e (k - 1) else .nils
def kindL (l : Nat → List Nat) (k : Nat) : List Nat := if 1 ≤ k ∧ k ≤ 7 then l (k - 1) else []
theorem kind_rep {st : St} {e : Nat → S} {l : Nat → List Nat} (h : EnvR st e l) (k : Nat) : RepNs st (kindS e k) (kindL l k) := by
  unfold kindS kindL
  split
  · exact h.rep _ (by omega)
  · exact ⟨0, 0, .inr ⟨rfl, .inl rfl⟩, fun i n hn => by simp at hn⟩
/-! the kinds' lists: one code for both texts -/
theorem list_code {f : Nat} {hf : HF} (h0 : F f = some hf) (hb : hf.body = cf34.body) (ha : hf.args = cf34.args) (hr : hf.results = cf34.results) (hy : Nat.blt f yBase = true) {st : St} (hw : WfS st) (k : Nat) (e : Nat → S) :
    Ca (cF F) f [bv k, .agg (envV e)] st (fun v s => Fr st s ∧ v = .sc (kindS e k)) := by
  refine Ca.of h0 hy [q0, q1] [.tmp q4] hb ha hr fun Q hQ => ?_
  have hfr : Fr st (new st (envV e)) := (Fr.refl hw).new _
  have m : ∀ i, i < 7 → rd (new st (envV e)) st.next i = some (e i) := fun i hi => by
    rw [rd_new, if_pos rfl]
    rcases (show i = 0 ∨ i = 1 ∨ i = 2 ∨ i = 3 ∨ i = 4 ∨ i = 5 ∨ i = 6 by omega) with rfl | rfl | rfl | rfl | rfl | rfl | rfl <;> rfl
  refine Ru.sreg ?_
  simp (disch := first | decide | omega)
  refine Rg.ret (Ru.seq (Ru.sreg ?_))
  refine Rg.ret (Ru.block (Ru.sreg ?_))
  simp (disch := first | decide | omega)
  have fin : ∀ ρ i, i < 7 → k = i + 1 → ρ q4 = .sc (e i) → Q .ret ρ (new st (envV e)) := fun ρ i hi hk hq => hQ _ _ (.one hq ⟨hfr, by unfold kindS; rw [if_pos (by omega), hk]; rfl⟩)
  refine Rg.ret (Ru.cond rfl (fun h => ?_) fun h => ?_)
  · simp at h
    refine Ru.sreg ?_
    simp (disch := first | decide | omega) [m]
    exact Rg.ret (Ru.ret (fin _ 0 (by omega) (by omega) rfl))
  refine Ru.sreg ?_
  simp (disch := first | decide | omega)
  refine Rg.ret (Ru.cond rfl (fun h => ?_) fun h => ?_)
  · simp at h
    refine Ru.sreg ?_
    simp (disch := first | decide | omega) [m]
    exact Rg.ret (Ru.ret (fin _ 1 (by omega) (by omega) rfl))
  refine Ru.sreg ?_
  simp (disch := first | decide | omega)
  refine Rg.ret (Ru.cond rfl (fun h => ?_) fun h => ?_)
  · simp at h
    refine Ru.sreg ?_
    simp (disch := first | decide | omega) [m]
    exact Rg.ret (Ru.ret (fin _ 2 (by omega) (by omega) rfl))
  refine Ru.sreg ?_
  simp (disch := first | decide | omega)
  refine Rg.ret (Ru.cond rfl (fun h => ?_) fun h => ?_)
  · simp at h
    refine Ru.sreg ?_
    simp (disch := first | decide | omega) [m]
    exact Rg.ret (Ru.ret (fin _ 3 (by omega) (by omega) rfl))
  refine Ru.sreg ?_
  simp (disch := first | decide | omega)
  refine Rg.ret (Ru.cond rfl (fun h => ?_) fun h => ?_)
  · simp at h
    refine Ru.sreg ?_
    simp (disch := first | decide | omega) [m]
    exact Rg.ret (Ru.ret (fin _ 4 (by omega) (by omega) rfl))
  refine Ru.sreg ?_
  simp (disch := first | decide | omega)
  refine Rg.ret (Ru.cond rfl (fun h => ?_) fun h => ?_)
  · simp at h
    refine Ru.sreg ?_
    simp (disch := first | decide | omega) [m]
    exact Rg.ret (Ru.ret (fin _ 5 (by omega) (by omega) rfl))
  refine Ru.sreg ?_
  simp (disch := first | decide | omega)
  refine Rg.ret (Ru.cond rfl (fun h => ?_) fun h => ?_)
  · simp at h
    refine Ru.sreg ?_
    simp (disch := first | decide | omega) [m]
    exact Rg.ret (Ru.ret (fin _ 6 (by omega) (by omega) rfl))
  refine Ru.skip ?_
  refine Ru.sreg ?_
  refine Rg.ret (Ru.ret (hQ _ _ (.one rfl ⟨hfr, ?_⟩)))
  simp at *
  unfold kindS
  rw [if_neg (by omega)]
theorem list_ok {st : St} (hw : WfS st) (k : Nat) (e : Nat → S) : Ca (cF F) 34 [bv k, .agg (envV e)] st (fun v s => Fr st s ∧ v = .sc (kindS e k)) :=
  list_code (hf := cf34) rfl rfl rfl rfl rfl hw k e
theorem rlist_ok {st : St} (hw : WfS st) (k : Nat) (e : Nat → S) : Ca (cF F) 46 [bv k, .agg (envV e)] st (fun v s => Fr st s ∧ v = .sc (kindS e k)) :=
  list_code (hf := cf46) rfl rfl rfl rfl rfl hw k e
end Go.Proofs.YtgknegdikgdfeaaDoor.Ev
namespace Go.Proofs.YtgknegdikgdfeaaDoor.Ev
set_option linter.unusedSimpArgs false
set_option linter.unusedVariables false
/-- a rest of a list -/
theorem drop_cons {α : Type} {l : List α} {i : Nat} {a : α} (h : l[i]? = some a) : l.drop i = a :: l.drop (i + 1) := by
  have hi := (List.getElem?_eq_some_iff.1 h).1
  rw [List.drop_eq_getElem_cons hi]
  congr 1
  have := List.getElem?_eq_getElem hi
  rw [h] at this; cases this; rfl
/-! small -/
def smallS (l : List MonoD) : Bool := decide (l.length ≤ 12) && l.all fun m => decide (m.vars.length ≤ 8)
theorem small_ok {st : St} (hw : WfS st) {s : S} {l : List MonoD} (hr : RepSum st s l) (hlen : l.length < 9223372036854775808) : Ca (cF F) 8 [.sc s] st (fun v s => Fr st s ∧ v = bl (smallS l)) := by
  refine Ca.of (hf := cf8) rfl rfl [q0] [.tmp q2] rfl rfl rfl fun Q hQ => ?_
  obtain ⟨id, off, hs, hc⟩ := hr
  have hF := Fr.refl hw
  refine Ru.sreg (Rg.ret ?_)
  refine Ru.seq (Ru.sreg ?_)
  simp (disch := first | decide | omega) [lnS_sl hs]
  refine Rg.ret (Ru.cond rfl (fun h => ?_) fun h => ?_)
  · simp at h
    refine Ru.sreg (Rg.ret (Ru.ret (hQ _ _ (.one rfl ⟨hF, ?_⟩))))
    have : decide (l.length ≤ 12) = false := by simp; omega
    unfold smallS; rw [this]; rfl
  simp at h
  refine Ru.skip (Ru.seq (Ru.sreg (Rg.ret ?_)))
  simp only [updE_cons, updE_nil]
  refine Ru.block (Ru.loop (fun i : Nat => l.length - i) (fun i ρ s' => s' = st ∧ i ≤ l.length ∧ ρ q0 = .sc s ∧ ρ q3 = iv i ∧ ∀ m, m ∈ l.take i → m.vars.length ≤ 8) ⟨0, rfl, Nat.zero_le _, rfl, rfl, fun m h => by simp at h⟩ fun i ρ s' hI => ?_)
  obtain ⟨rfl, hi, h0, h3, hall⟩ := hI
  refine Ru.seq (Ru.sreg ?_)
  simp (disch := first | decide | omega) [lnS_sl hs, h0, h3]
  refine Rg.ret (Ru.cond rfl (fun h => ?_) fun h => ?_)
  · simp at h
    have hlt : i < l.length := by omega
    refine Ru.skip (Ru.seq (Ru.block (Ru.sreg ?_)))
    obtain ⟨hc1, s2, hc2, id2, off2, hs2, _⟩ := hc i l[i] (List.getElem?_eq_getElem hlt)
    have hd := drop_cons (List.getElem?_eq_getElem hlt)
    simp (disch := first | decide | omega) [h0, h3, ixs_sl hs hlt, hc2, lnS_sl hs2]
    have ht : l.take (i + 1) = l.take i ++ [l[i]] := by rw [List.take_add_one, List.getElem?_eq_getElem hlt]; rfl
    refine Rg.ret (Ru.cond rfl (fun h => ?_) fun h => ?_)
    · simp at h
      refine Ru.sreg (Rg.ret (Ru.ret (hQ _ _ (.one rfl ⟨hF, ?_⟩))))
      have : l.all (fun m => decide (m.vars.length ≤ 8)) = false := by
        rw [List.all_eq_false]
        exact ⟨l[i], List.getElem_mem hlt, by simp; omega⟩
      unfold smallS; rw [this]; simp
    · simp at h
      refine Ru.skip (Ru.reg ?_)
      simp (disch := first | decide | omega) [h3]
      refine Rg.ret ⟨i + 1, by omega, rfl, by omega, ?_, ?_, ?_⟩
      · simp (disch := first | decide | omega) [h0]
      · simp (disch := first | decide | omega)
      · intro m hm
        rw [ht] at hm
        rcases List.mem_append.1 hm with hm | hm
        · exact hall m hm
        · obtain rfl := List.mem_singleton.1 hm; omega
  · simp at h
    have : i = l.length := by omega
    subst this
    refine Ru.exit ?_
    simp only [Then, Out, if_true]
    refine Ru.sreg (Rg.ret (Ru.ret (hQ _ _ (.one rfl ⟨hF, ?_⟩))))
    rw [List.take_length] at hall
    have h12 : decide (l.length ≤ 12) = true := by simp; omega
    have hall' : l.all (fun m => decide (m.vars.length ≤ 8)) = true := List.all_eq_true.2 fun m hm => by simpa using hall m hm
    unfold smallS; rw [h12, hall']; rfl
end Go.Proofs.YtgknegdikgdfeaaDoor.Ev
namespace Go.Proofs.YtgknegdikgdfeaaDoor.Ev
set_option linter.unusedSimpArgs false
set_option linter.unusedVariables false
def innerV (P : Nat) (env : Nat → List Nat) : List VarD → Nat → Option Nat
  | [], x => some x
  | v :: vs, x => if 0 ≤ v.index ∧ v.index < (kindL env v.kind).length then innerV P env vs (fmul P x ((kindL env v.kind).getD v.index.toNat 0)) else none
def outerV (P : Nat) (env : Nat → List Nat) : List MonoD → Nat → Option Nat
  | [], t => some t
  | m :: ms, t => (innerV P env m.vars (fadd P m.coef 0)).bind fun x => outerV P env ms (fadd P t x)
def valV : Option Nat → V
  | some t => .tup [(false, [us t]), (false, [is 0])]
  | none => .tup [(false, [us 0]), (false, [is 2])]
theorem fatM : FAt F 0 32 74 56 := ⟨rfl, rfl, rfl, rfl, rfl, rfl⟩
theorem addM {st : St} {x P : Nat} {l : List S} (hl : Lies st 0 x P l) (A B : Nat) : Ca (cF F) 33 [iv x, uv A, uv B] st (fun v s => Fr st s ∧ v = uv (fadd P A B)) :=
  (fAdd fatM (a := 33) rfl rfl hl A B).imp fun v s h => ⟨h.1.1, h.2⟩
theorem mulM {st : St} {x P : Nat} {l : List S} (hl : Lies st 0 x P l) (A B : Nat) : Ca (cF F) 30 [iv x, uv A, uv B] st (fun v s => Fr st s ∧ v = uv (fmul P A B)) :=
  (fMul fatM (m := 30) rfl rfl hl A B).imp fun v s h => ⟨h.1.1, h.2⟩
theorem value_ok {st : St} {x P : Nat} {l5 : List S} (hl : Lies st 0 x P l5) {s : S} {l : List MonoD} (hS : RepSum st s l) (hsm : smallS l = true) {e : Nat → S} {L : Nat → List Nat} (hE : EnvR st e L) :
    Ca (cF F) 15 [iv x, .sc s, .agg (envV e)] st (fun v s => Fr st s ∧ v = valV (outerV P L l 0)) := by
  refine Ca.of (hf := cf15) rfl rfl [q0, q1, q2] [.tmp q6, .tmp q7] rfl rfl rfl fun Q hQ => ?_
  have hx := hl.xlt
  have h12 : l.length ≤ 12 ∧ ∀ m ∈ l, m.vars.length ≤ 8 := by
    unfold smallS at hsm
    simpa using hsm
  obtain ⟨h12, h8⟩ := h12
  let s1 := new st (envV e)
  have f1 : Fr st s1 := (Fr.refl hl.wf).new _
  have hbox : rdN s1 st.next 0 7 = some (envV e) := rdN_get rfl fun i y hy => by rw [rd_new, if_pos rfl, Nat.zero_add]; exact hy
  have fin : ∀ ρ s', Fr s1 s' → (∃ o, outerV P L l 0 = o ∧ ((∃ t, o = some t ∧ ρ q6 = uv t ∧ ρ q7 = iv 0) ∨ (o = none ∧ ρ q6 = uv 0 ∧ ρ q7 = iv 2))) → Q .ret ρ s' := fun ρ s' hf ho => by
    obtain ⟨o, ho, h | h⟩ := ho
    · obtain ⟨t, rfl, a, b⟩ := h
      exact hQ _ _ (.two a b ⟨f1.trans hf, by rw [ho]; rfl⟩)
    · obtain ⟨rfl, a, b⟩ := h
      exact hQ _ _ (.two a b ⟨f1.trans hf, by rw [ho]; rfl⟩)
  refine Ru.sreg ?_
  simp (disch := first | decide | omega)
  refine Rg.ret (Ru.seq (Ru.sreg ?_))
  simp (disch := first | decide | omega)
  refine Rg.call (fValid (v := 32) rfl rfl _ _) fun v s' h => ?_
  obtain ⟨rfl, rfl⟩ := h
  have h4 : decide ((x : Int) < 4) = true := by simp; omega
  simp [h4]
  refine Rg.ret (Ru.cond rfl (fun h => by cases h) fun h => Ru.skip (Ru.sreg (Rg.ret ?_)))
  obtain ⟨id, off, hs, hc⟩ := hS
  refine Ru.seq (Ru.seq (Ru.reg ?_))
  simp (disch := first | decide | omega) [lnS_sl hs]
  refine Rg.ret (Ru.block (Ru.loop (fun i : Nat => l.length - i) (fun i ρ s' => Fr s1 s' ∧ i ≤ l.length ∧ ρ q0 = iv x ∧ ρ q18 = .sc s ∧ ρ q19 = iv l.length ∧ ρ q20 = iv i ∧ ρ q5 = .sc (.ptr st.next 0) ∧ ∃ t, ρ q8 = uv t ∧ outerV P L (l.drop i) t = outerV P L l 0)
    ⟨0, Fr.refl f1.wf, Nat.zero_le _, rfl, rfl, rfl, rfl, rfl, 0, rfl, rfl⟩ fun i ρ s' hI => ?_))
  obtain ⟨hf, hi, e0, e18, e19, e20, e5, t, e8, ht⟩ := hI
  refine Ru.sreg ?_
  simp (disch := first | decide | omega) [e20, e19]
  refine Rg.ret (Ru.seq (Ru.cond rfl (fun h => ?_) fun h => ?_))
  · simp at h
    have hlt : i < l.length := by omega
    have hgi := List.getElem?_eq_getElem hlt
    generalize l[i] = m at hgi
    obtain ⟨hc1, sv, hc2, hv⟩ := hc i m hgi
    have hm8 := h8 m (List.mem_of_getElem? hgi)
    have hd := drop_cons hgi
    obtain ⟨idv, offv, hsv, hcv⟩ := hv
    have g1 := (f1.trans hf).rd hc1
    have g2 := (f1.trans hf).rd hc2
    refine Ru.skip (Ru.seq (Ru.block (Ru.sreg ?_)))
    simp (disch := first | decide | omega) [e20, e18, ixs_sl hs hlt, rdN_succ, g1, g2]
    -- the monomial's copy
    let s2 := wr (new s' [us 0, zn]) s'.next 0 [us m.coef, sv]
    have f2 : Fr s' s2 := fr_mk hf.wf _ _
    have b0 : rd s2 s'.next 0 = some (us m.coef) := by show rd (wr _ _ _ _) _ _ = _; rw [rd_mk (by rfl)]; simp
    have b1 : rd s2 s'.next 1 = some sv := by show rd (wr _ _ _ _) _ _ = _; rw [rd_mk (by rfl)]; simp
    refine Rg.ret (Ru.sreg ?_)
    have b0' : rd (wr (new s' [us 0, zn]) s'.next 0 [us m.coef, sv]) s'.next 0 = some (us m.coef) := b0
    simp (disch := first | decide | omega) [b0', e0]
    refine Rg.call (addM (hl.fr ((f1.trans hf).trans f2)) m.coef 0) fun v s3 h => ?_
    obtain ⟨f3, rfl⟩ := h
    refine Rg.ret (Ru.seq (Ru.seq (Ru.reg ?_)))
    simp (disch := first | decide | omega) [f3.rd b1, lnS_sl hsv]
    have hF3 : Fr s1 s3 := (hf.trans f2).trans f3
    refine Rg.ret (Ru.block (Ru.loop (fun k : Nat => m.vars.length - k) (fun k ρ s' => Fr s1 s' ∧ k ≤ m.vars.length ∧ ρ q0 = iv x ∧ ρ q18 = .sc s ∧ ρ q19 = iv l.length ∧ ρ q20 = iv i ∧ ρ q5 = .sc (.ptr st.next 0) ∧ ρ q8 = uv t ∧
        ρ q29 = .sc sv ∧ ρ q30 = iv m.vars.length ∧ ρ q31 = iv k ∧ ∃ y, ρ q11 = uv y ∧ innerV P L (m.vars.drop k) y = innerV P L m.vars (fadd P m.coef 0))
      ⟨0, hF3, Nat.zero_le _, ?_, ?_, ?_, ?_, ?_, ?_, rfl, rfl, rfl, _, rfl, rfl⟩ fun k ρ s4 hJ => ?_))
    all_goals try (simp (disch := first | decide | omega) [e0, e18, e19, e20, e5, e8]; done)
    obtain ⟨f4, hk, e0, e18, e19, e20, e5, e8, e29, e30, e31, y, e11, hy⟩ := hJ
    refine Ru.sreg ?_
    simp (disch := first | decide | omega) [e31, e30]
    refine Rg.ret (Ru.seq (Ru.cond rfl (fun h => ?_) fun h => ?_))
    · simp at h
      have hlk : k < m.vars.length := by omega
      have hgk := List.getElem?_eq_getElem hlk
      generalize m.vars[k] = w at hgk
      obtain ⟨k1, k2⟩ := hcv k w hgk
      have hdk := drop_cons hgk
      have j1 := (f1.trans f4).rd k1
      have j2 := (f1.trans f4).rd k2
      refine Ru.skip (Ru.seq (Ru.block (Ru.sreg ?_)))
      simp (disch := first | decide | omega) [e31, e29, ixs_sl hsv hlk, rdN_succ, j1, j2]
      have f5 : Fr s4 (wr (new s4 [bs 0, is 0]) s4.next 0 [bs w.kind, is w.index]) := fr_mk f4.wf _ _
      have w0 : rd (wr (new s4 [bs 0, is 0]) s4.next 0 [bs w.kind, is w.index]) s4.next 0 = some (bs w.kind) := by rw [rd_mk (by rfl)]; simp
      have w1 : rd (wr (new s4 [bs 0, is 0]) s4.next 0 [bs w.kind, is w.index]) s4.next 1 = some (is w.index) := by rw [rd_mk (by rfl)]; simp
      generalize wr (new s4 [bs 0, is 0]) s4.next 0 [bs w.kind, is w.index] = s5 at f5 w0 w1 ⊢
      refine Rg.ret (Ru.sreg ?_)
      have hb5 : rdN s5 st.next 0 7 = some (envV e) := (f4.trans f5).rdN hbox
      simp (disch := first | decide | omega) [w0, e5, hb5]
      refine Rg.call (list_ok (f4.trans f5).wf w.kind e) fun v s6 h => ?_
      obtain ⟨f6, rfl⟩ := h
      obtain ⟨ido, offo, hso, hco⟩ := kind_rep (hE.fr (((f1.trans f4).trans f5).trans f6)) w.kind
      refine Rg.ret (Ru.seq (Ru.sreg ?_))
      simp (disch := first | decide | omega) [f6.rd w1]
      have hF6 : Fr s1 s6 := (f4.trans f5).trans f6
      -- out of range: the error
      have bad : ¬ (0 ≤ w.index ∧ w.index < (kindL L w.kind).length) → outerV P L l 0 = none := fun hb => by
        rw [← ht, hd]
        show (innerV P L m.vars (fadd P m.coef 0)).bind _ = none
        rw [← hy, hdk]
        show (if 0 ≤ w.index ∧ w.index < (kindL L w.kind).length then _ else none).bind _ = none
        rw [if_neg hb]; rfl
      by_cases hneg : w.index < 0
      · simp (disch := first | decide | omega) [hneg]
        refine Rg.ret (Ru.cond rfl (fun _ => ?_) fun h => by cases h)
        refine Ru.sreg (Rg.ret (Ru.ret (fin _ _ hF6 ⟨_, rfl, .inr ⟨bad (by omega), rfl, rfl⟩⟩)))
      simp (disch := first | decide | omega) [hneg, f6.rd w1, lnS_sl hso]
      refine Rg.ret (Ru.cond rfl (fun h => ?_) fun h => ?_)
      · simp at h
        refine Ru.sreg (Rg.ret (Ru.ret (fin _ _ hF6 ⟨_, rfl, .inr ⟨bad (by omega), rfl, rfl⟩⟩)))
      · simp at h
        have hin : 0 ≤ w.index ∧ w.index < (kindL L w.kind).length := ⟨by omega, h⟩
        obtain ⟨j, hj⟩ := Int.eq_ofNat_of_zero_le hin.1
        have hjl : j < (kindL L w.kind).length := by omega
        have hgj := List.getElem?_eq_getElem hjl
        generalize hz : (kindL L w.kind)[j] = z at hgj
        have hcz := hco j z hgj
        refine Ru.skip (Ru.reg ?_)
        have w1' := f6.rd w1
        rw [hj] at w1'
        rw [Nat.mul_one] at hcz
        simp (disch := first | decide | omega) [w1', ixs_sl hso hjl, e0, e11, hcz]
        refine Rg.call (mulM (hl.fr (f1.trans hF6)) y z) fun v s7 h => ?_
        obtain ⟨f7, rfl⟩ := h
        refine Rg.ret ?_
        show Ru (cF F) (.reg _ _) _ _ _
        refine Ru.reg ?_
        simp (disch := first | decide | omega) [e31]
        refine Rg.ret ⟨k + 1, by omega, hF6.trans f7, by omega, ?_, ?_, ?_, ?_, ?_, ?_, ?_, ?_, ?_, _, rfl, ?_⟩
        all_goals try (simp (disch := first | decide | omega) [e0, e18, e19, e20, e5, e8, e29, e30, e31]; done)
        rw [← hy, hdk]
        show _ = (if 0 ≤ w.index ∧ w.index < (kindL L w.kind).length then _ else none)
        rw [if_pos hin]
        have : (kindL L w.kind).getD w.index.toNat 0 = z := by
          rw [hj]; simp [List.getD, List.getElem?_eq_getElem hjl, hz]
        rw [this]
    · simp at h
      have : k = m.vars.length := by omega
      subst this
      refine Ru.exit ?_
      simp only [Then, Out, if_true]
      rw [List.drop_length] at hy
      refine Ru.reg ?_
      simp (disch := first | decide | omega) [e0, e8, e11]
      refine Rg.call (addM (hl.fr (f1.trans f4)) t y) fun v s7 h => ?_
      obtain ⟨f7, rfl⟩ := h
      refine Rg.ret ?_
      show Ru (cF F) (.reg _ _) _ _ _
      refine Ru.reg ?_
      simp (disch := first | decide | omega) [e20]
      refine Rg.ret ⟨i + 1, by omega, f4.trans f7, by omega, ?_, ?_, ?_, ?_, ?_, _, rfl, ?_⟩
      all_goals try (simp (disch := first | decide | omega) [e0, e18, e19, e20, e5, e8]; done)
      rw [← ht, hd]
      show _ = (innerV P L m.vars (fadd P m.coef 0)).bind _
      rw [← hy]; rfl
  · simp at h
    have : i = l.length := by omega
    subst this
    refine Ru.exit ?_
    simp only [Then, Out, if_true]
    refine Ru.sreg (Rg.ret (Ru.ret (fin _ _ hf ?_)))
    rw [List.drop_length] at ht
    exact ⟨_, ht.symm, .inl ⟨t, rfl, by simp (disch := first | decide | omega) [e8], rfl⟩⟩
end Go.Proofs.YtgknegdikgdfeaaDoor.Ev
namespace Go.Proofs.YtgknegdikgdfeaaDoor.Ev
set_option linter.unusedSimpArgs false
set_option linter.unusedVariables false
def pC (x : Nat) : Nat := if x = 0 then 97 else if x = 1 then 257 else if x = 2 then 12289 else 998244353
theorem pC_pos (x : Nat) : 0 < pC x := by unfold pC; (repeat' split) <;> omega
theorem pC_lt (x : Nat) : pC x < 998244354 := by unfold pC; (repeat' split) <;> omega
theorem rValid_ok (x : Int) (st : St) : Ca (cF F) 44 [iv x] st (fun v s => v = bl (decide (0 ≤ x ∧ x < 4)) ∧ s = st) := by
  refine Ca.of (hf := cf44) rfl rfl [q0] [.tmp q2] rfl rfl rfl fun Q hQ => ?_
  refine Ru.sreg (Rg.ret ?_)
  refine Ru.sreg ?_
  simp (disch := first | decide | omega)
  by_cases h : 0 ≤ x
  · simp [h]
    refine Rg.ret (Ru.ret (hQ _ _ (.one rfl ⟨?_, rfl⟩)))
    simp [h]
    omega
  · simp [h]
    refine Rg.ret (Ru.ret (hQ _ _ (.one rfl ⟨?_, rfl⟩)))
    simp [h]
theorem refValid_ok (x : Int) (st : St) : Ca (cF F) 22 [iv x] st (fun v s => v = bl (decide (0 ≤ x ∧ x < 4)) ∧ s = st) := by
  refine Ca.of (hf := cf22) rfl rfl [q0] [.tmp q2] rfl rfl rfl fun Q hQ => ?_
  refine Ru.sreg (Rg.ret ?_)
  refine Ru.sreg ?_
  simp (disch := first | decide | omega)
  refine Rg.call (rValid_ok _ _) fun v s h => ?_
  obtain ⟨rfl, rfl⟩ := h
  exact Rg.ret (Ru.ret (hQ _ _ (.one rfl ⟨rfl, rfl⟩)))
theorem rP_ok {x : Nat} (hx : x < 4) (st : St) : Ca (cF F) 45 [iv x] st (fun v s => v = uv (pC x) ∧ s = st) := by
  refine Ca.of (hf := cf45) rfl rfl [q0] [.tmp q2] rfl rfl rfl fun Q hQ => ?_
  refine Ru.sreg (Rg.ret ?_)
  refine Ru.seq (Ru.sreg (Rg.ret (Ru.block (Ru.sreg ?_))))
  simp (disch := first | decide | omega)
  refine Rg.ret (Ru.cond rfl (fun h => ?_) fun h => ?_)
  · simp at h
    subst h
    exact Ru.sreg (Rg.ret (Ru.ret (hQ _ _ (.one rfl ⟨rfl, rfl⟩))))
  refine Ru.sreg ?_
  simp (disch := first | decide | omega)
  refine Rg.ret (Ru.cond rfl (fun h => ?_) fun h => ?_)
  · simp at h
    obtain rfl : x = 1 := by omega
    exact Ru.sreg (Rg.ret (Ru.ret (hQ _ _ (.one rfl ⟨rfl, rfl⟩))))
  refine Ru.sreg ?_
  simp (disch := first | decide | omega)
  refine Rg.ret (Ru.cond rfl (fun h => ?_) fun h => ?_)
  · simp at h
    obtain rfl : x = 2 := by omega
    exact Ru.sreg (Rg.ret (Ru.ret (hQ _ _ (.one rfl ⟨rfl, rfl⟩))))
  refine Ru.sreg ?_
  simp (disch := first | decide | omega)
  refine Rg.ret (Ru.cond rfl (fun h => ?_) fun h => ?_)
  · simp at h
    obtain rfl : x = 3 := by omega
    exact Ru.sreg (Rg.ret (Ru.ret (hQ _ _ (.one rfl ⟨rfl, rfl⟩))))
  simp at *
  omega
theorem rAdd_ok {st : St} (hw : WfS st) {x : Nat} (hx : x < 4) (A B : Nat) : Ca (cF F) 17 [iv x, uv A, uv B] st (fun v s => Fr st s ∧ v = uv (fadd (pC x) A B)) := by
  refine Ca.of (hf := cf17) rfl rfl [q0, q1, q2] [.tmp q6] rfl rfl rfl fun Q hQ => ?_
  have hp := pC_pos x
  have hl := pC_lt x
  have h2 := Nat.mod_lt A hp
  have h3 := Nat.mod_lt B hp
  have h4 : decide ((x : Int) < 4) = true := by simp; omega
  have hP : ∀ s : St, WfS s → Ca (cF F) 45 [iv x] (setLow s s.next) (fun v s' => Fr (setLow s s.next) s' ∧ v = uv (pC x)) := fun s hs =>
    (rP_ok hx _).imp fun v s' h => ⟨by rw [h.2]; exact Fr.refl (wf_setLow (h := hs)), h.1⟩
  refine Ru.sreg (Rg.ret ?_)
  refine Ru.seq (Ru.sreg ?_)
  simp (disch := first | decide | omega)
  refine Rg.call (rValid_ok _ _) fun v s h => ?_
  obtain ⟨rfl, rfl⟩ := h
  simp [h4]
  refine Rg.ret (Ru.cond rfl (fun h => by cases h) fun h => Ru.skip (Ru.sdrw ?_))
  simp (disch := first | decide | omega)
  refine Rg.dw3 hw (by rfl) (hP _ hw) fun v s1 f1 h => ?_
  subst h
  simp (disch := first | decide | omega) [mkH_eq]
  refine Rg.dw3 f1.wf (by rfl) (hP _ f1.wf) fun v s2 f2 h => ?_
  subst h
  simp (disch := first | decide | omega) [mkH_eq]
  refine Rg.dw3 f2.wf (by rfl) (hP _ f2.wf) fun v s3 f3 h => ?_
  subst h
  simp (disch := first | decide | omega) [mkH_eq]
  exact Rg.ret (Ru.ret (hQ _ _ (.one rfl ⟨(f1.trans f2).trans f3, by unfold fadd; simp⟩)))
theorem rMul_ok {st : St} (hw : WfS st) {x : Nat} (hx : x < 4) (A B : Nat) : Ca (cF F) 18 [iv x, uv A, uv B] st (fun v s => Fr st s ∧ v = uv (fmul (pC x) A B)) := by
  refine Ca.of (hf := cf18) rfl rfl [q0, q1, q2] [.tmp q6] rfl rfl rfl fun Q hQ => ?_
  have hp := pC_pos x
  have hl := pC_lt x
  have h2 := Nat.mod_lt A hp
  have h3 := Nat.mod_lt B hp
  have h4 : decide ((x : Int) < 4) = true := by simp; omega
  have h5 : A % pC x * (B % pC x) < 18446744073709551616 := mul_small (by omega) (by omega)
  have hP : ∀ s : St, WfS s → Ca (cF F) 45 [iv x] (setLow s s.next) (fun v s' => Fr (setLow s s.next) s' ∧ v = uv (pC x)) := fun s hs =>
    (rP_ok hx _).imp fun v s' h => ⟨by rw [h.2]; exact Fr.refl (wf_setLow (h := hs)), h.1⟩
  refine Ru.sreg (Rg.ret ?_)
  refine Ru.seq (Ru.sreg ?_)
  simp (disch := first | decide | omega)
  refine Rg.call (rValid_ok _ _) fun v s h => ?_
  obtain ⟨rfl, rfl⟩ := h
  simp [h4]
  refine Rg.ret (Ru.cond rfl (fun h => by cases h) fun h => Ru.skip (Ru.sdrw ?_))
  simp (disch := first | decide | omega)
  refine Rg.dw3 hw (by rfl) (hP _ hw) fun v s1 f1 h => ?_
  subst h
  simp (disch := first | decide | omega) [mkH_eq]
  refine Rg.dw3 f1.wf (by rfl) (hP _ f1.wf) fun v s2 f2 h => ?_
  subst h
  simp (disch := first | decide | assumption | omega) [mkH_eq]
  refine Rg.dw3 f2.wf (by rfl) (hP _ f2.wf) fun v s3 f3 h => ?_
  subst h
  simp (disch := first | decide | omega) [mkH_eq]
  refine Rg.ret (Ru.ret (hQ _ _ (.one rfl ⟨(f1.trans f2).trans f3, ?_⟩)))
  show uv (A * B % pC x) = uv (A % pC x * (B % pC x) % pC x)
  rw [Nat.mul_mod]
end Go.Proofs.YtgknegdikgdfeaaDoor.Ev
namespace Go.Proofs.YtgknegdikgdfeaaDoor.Ev
set_option linter.unusedSimpArgs false
set_option linter.unusedVariables false
theorem refValue_ok {st : St} (hw : WfS st) {x : Nat} (hx : x < 4) {s : S} {l : List MonoD} (hS : RepSum st s l) (hsm : smallS l = true) {e : Nat → S} {L : Nat → List Nat} (hE : EnvR st e L) :
    Ca (cF F) 19 [iv x, .sc s, .agg (envV e)] st (fun v s => Fr st s ∧ v = valV (outerV (pC x) L l 0)) := by
  refine Ca.of (hf := cf19) rfl rfl [q0, q1, q2] [.tmp q6, .tmp q7] rfl rfl rfl fun Q hQ => ?_
  have h12 : l.length ≤ 12 ∧ ∀ m ∈ l, m.vars.length ≤ 8 := by
    unfold smallS at hsm
    simpa using hsm
  obtain ⟨h12, h8⟩ := h12
  let s1 := new st (envV e)
  have f1 : Fr st s1 := (Fr.refl hw).new _
  have hbox : rdN s1 st.next 0 7 = some (envV e) := rdN_get rfl fun i y hy => by rw [rd_new, if_pos rfl, Nat.zero_add]; exact hy
  have fin : ∀ ρ s', Fr s1 s' → (∃ o, outerV (pC x) L l 0 = o ∧ ((∃ t, o = some t ∧ ρ q6 = uv t ∧ ρ q7 = iv 0) ∨ (o = none ∧ ρ q6 = uv 0 ∧ ρ q7 = iv 2))) → Q .ret ρ s' := fun ρ s' hf ho => by
    obtain ⟨o, ho, h | h⟩ := ho
    · obtain ⟨t, rfl, a, b⟩ := h
      exact hQ _ _ (.two a b ⟨f1.trans hf, by rw [ho]; rfl⟩)
    · obtain ⟨rfl, a, b⟩ := h
      exact hQ _ _ (.two a b ⟨f1.trans hf, by rw [ho]; rfl⟩)
  refine Ru.sreg ?_
  simp (disch := first | decide | omega)
  refine Rg.ret (Ru.seq (Ru.sreg ?_))
  simp (disch := first | decide | omega)
  refine Rg.call (refValid_ok _ _) fun v s' h => ?_
  obtain ⟨rfl, rfl⟩ := h
  have h4 : decide ((x : Int) < 4) = true := by simp; omega
  simp [h4]
  refine Rg.ret (Ru.cond rfl (fun h => by cases h) fun h => Ru.skip (Ru.sreg (Rg.ret ?_)))
  obtain ⟨id, off, hs, hc⟩ := hS
  refine Ru.seq (Ru.sreg (Rg.ret ?_))
  refine Ru.block (Ru.loop (fun i : Nat => l.length - i) (fun i ρ s' => Fr s1 s' ∧ i ≤ l.length ∧ ρ q0 = iv x ∧ ρ q1 = .sc s ∧ ρ q9 = iv i ∧ ρ q5 = .sc (.ptr st.next 0) ∧ ∃ t, ρ q8 = uv t ∧ outerV (pC x) L (l.drop i) t = outerV (pC x) L l 0)
    ⟨0, Fr.refl f1.wf, Nat.zero_le _, rfl, rfl, rfl, rfl, 0, rfl, rfl⟩ fun i ρ s' hI => ?_)
  obtain ⟨hf, hi, e0, e1, e9, e5, t, e8, ht⟩ := hI
  refine Ru.seq (Ru.sreg ?_)
  simp (disch := first | decide | omega) [e9, e1, lnS_sl hs]
  refine Rg.ret (Ru.cond rfl (fun h => ?_) fun h => ?_)
  · simp at h
    have hlt : i < l.length := by omega
    have hgi := List.getElem?_eq_getElem hlt
    generalize l[i] = m at hgi
    obtain ⟨hc1, sv, hc2, hv⟩ := hc i m hgi
    have hm8 := h8 m (List.mem_of_getElem? hgi)
    have hd := drop_cons hgi
    obtain ⟨idv, offv, hsv, hcv⟩ := hv
    have g1 := (f1.trans hf).rd hc1
    refine Ru.skip (Ru.seq (Ru.block (Ru.sreg ?_)))
    simp (disch := first | decide | omega) [e0, e9, e1, ixs_sl hs hlt, g1]
    refine Rg.call (rAdd_ok hf.wf hx m.coef 0) fun v s3 h => ?_
    obtain ⟨f3, rfl⟩ := h
    refine Rg.ret (Ru.seq (Ru.sreg (Rg.ret ?_)))
    have hF3 : Fr s1 s3 := hf.trans f3
    refine Ru.block (Ru.loop (fun k : Nat => m.vars.length - k) (fun k ρ s' => Fr s1 s' ∧ k ≤ m.vars.length ∧ ρ q0 = iv x ∧ ρ q1 = .sc s ∧ ρ q9 = iv i ∧ ρ q5 = .sc (.ptr st.next 0) ∧ ρ q8 = uv t ∧
        ρ q11 = iv k ∧ ∃ y, ρ q10 = uv y ∧ innerV (pC x) L (m.vars.drop k) y = innerV (pC x) L m.vars (fadd (pC x) m.coef 0))
      ⟨0, hF3, Nat.zero_le _, ?_, ?_, ?_, ?_, ?_, rfl, _, rfl, rfl⟩ fun k ρ s4 hJ => ?_)
    all_goals try (simp (disch := first | decide | omega) [e0, e1, e9, e5, e8]; done)
    obtain ⟨f4, hk, e0, e1, e9, e5, e8, e11, y, e10, hy⟩ := hJ
    have g2 := (f1.trans f4).rd hc2
    refine Ru.seq (Ru.sreg ?_)
    simp (disch := first | decide | omega) [e9, e1, e11, ixs_sl hs hlt, g2, lnS_sl hsv]
    refine Rg.ret (Ru.cond rfl (fun h => ?_) fun h => ?_)
    · simp at h
      have hlk : k < m.vars.length := by omega
      have hgk := List.getElem?_eq_getElem hlk
      generalize m.vars[k] = w at hgk
      obtain ⟨k1, k2⟩ := hcv k w hgk
      have hdk := drop_cons hgk
      have j1 := (f1.trans f4).rd k1
      have j2 := (f1.trans f4).rd k2
      refine Ru.skip (Ru.seq (Ru.block (Ru.sreg ?_)))
      simp (disch := first | decide | omega) [e9, e1, e11, ixs_sl hs hlt, g2, ixs_sl hsv hlk, rdN_succ, j1, j2]
      have f5 : Fr s4 (wr (new s4 [bs 0, is 0]) s4.next 0 [bs w.kind, is w.index]) := fr_mk f4.wf _ _
      have w0 : rd (wr (new s4 [bs 0, is 0]) s4.next 0 [bs w.kind, is w.index]) s4.next 0 = some (bs w.kind) := by rw [rd_mk (by rfl)]; simp
      have w1 : rd (wr (new s4 [bs 0, is 0]) s4.next 0 [bs w.kind, is w.index]) s4.next 1 = some (is w.index) := by rw [rd_mk (by rfl)]; simp
      generalize wr (new s4 [bs 0, is 0]) s4.next 0 [bs w.kind, is w.index] = s5 at f5 w0 w1 ⊢
      refine Rg.ret (Ru.sreg ?_)
      have hb5 : rdN s5 st.next 0 7 = some (envV e) := (f4.trans f5).rdN hbox
      simp (disch := first | decide | omega) [w0, e5, hb5]
      refine Rg.call (rlist_ok (f4.trans f5).wf w.kind e) fun v s6 h => ?_
      obtain ⟨f6, rfl⟩ := h
      obtain ⟨ido, offo, hso, hco⟩ := kind_rep (hE.fr (((f1.trans f4).trans f5).trans f6)) w.kind
      refine Rg.ret (Ru.seq (Ru.sreg ?_))
      simp (disch := first | decide | omega) [f6.rd w1]
      have hF6 : Fr s1 s6 := (f4.trans f5).trans f6
      have bad : ¬ (0 ≤ w.index ∧ w.index < (kindL L w.kind).length) → outerV (pC x) L l 0 = none := fun hb => by
        rw [← ht, hd]
        show (innerV (pC x) L m.vars (fadd (pC x) m.coef 0)).bind _ = none
        rw [← hy, hdk]
        show (if 0 ≤ w.index ∧ w.index < (kindL L w.kind).length then _ else none).bind _ = none
        rw [if_neg hb]; rfl
      by_cases hneg : w.index < 0
      · simp (disch := first | decide | omega) [hneg]
        refine Rg.ret (Ru.cond rfl (fun _ => ?_) fun h => by cases h)
        refine Ru.sreg (Rg.ret (Ru.ret (fin _ _ hF6 ⟨_, rfl, .inr ⟨bad (by omega), rfl, rfl⟩⟩)))
      simp (disch := first | decide | omega) [hneg, f6.rd w1, lnS_sl hso]
      refine Rg.ret (Ru.cond rfl (fun h => ?_) fun h => ?_)
      · simp at h
        refine Ru.sreg (Rg.ret (Ru.ret (fin _ _ hF6 ⟨_, rfl, .inr ⟨bad (by omega), rfl, rfl⟩⟩)))
      · simp at h
        have hin : 0 ≤ w.index ∧ w.index < (kindL L w.kind).length := ⟨by omega, h⟩
        obtain ⟨j, hj⟩ := Int.eq_ofNat_of_zero_le hin.1
        have hjl : j < (kindL L w.kind).length := by omega
        have hgj := List.getElem?_eq_getElem hjl
        generalize hz : (kindL L w.kind)[j] = z at hgj
        have hcz := hco j z hgj
        refine Ru.skip (Ru.reg ?_)
        have w1' := f6.rd w1
        rw [hj] at w1'
        rw [Nat.mul_one] at hcz
        simp (disch := first | decide | omega) [w1', ixs_sl hso hjl, e0, e10, hcz]
        refine Rg.call (rMul_ok hF6.wf hx y z) fun v s7 h => ?_
        obtain ⟨f7, rfl⟩ := h
        refine Rg.ret ?_
        show Ru (cF F) (.reg _ _) _ _ _
        refine Ru.reg ?_
        simp (disch := first | decide | omega) [e11]
        refine Rg.ret ⟨k + 1, by omega, hF6.trans f7, by omega, ?_, ?_, ?_, ?_, ?_, ?_, _, rfl, ?_⟩
        all_goals try (simp (disch := first | decide | omega) [e0, e1, e9, e5, e8, e11]; done)
        rw [← hy, hdk]
        show _ = (if 0 ≤ w.index ∧ w.index < (kindL L w.kind).length then _ else none)
        rw [if_pos hin]
        have : (kindL L w.kind).getD w.index.toNat 0 = z := by
          rw [hj]; simp [List.getD, List.getElem?_eq_getElem hjl, hz]
        rw [this]
    · simp at h
      have : k = m.vars.length := by omega
      subst this
      refine Ru.exit ?_
      simp only [Then, Out, if_true]
      rw [List.drop_length] at hy
      refine Ru.reg ?_
      simp (disch := first | decide | omega) [e0, e8, e10]
      refine Rg.call (rAdd_ok f4.wf hx t y) fun v s7 h => ?_
      obtain ⟨f7, rfl⟩ := h
      refine Rg.ret ?_
      show Ru (cF F) (.reg _ _) _ _ _
      refine Ru.reg ?_
      simp (disch := first | decide | omega) [e9]
      refine Rg.ret ⟨i + 1, by omega, f4.trans f7, by omega, ?_, ?_, ?_, ?_, _, rfl, ?_⟩
      all_goals try (simp (disch := first | decide | omega) [e0, e1, e9, e5, e8]; done)
      rw [← ht, hd]
      show _ = (innerV (pC x) L m.vars (fadd (pC x) m.coef 0)).bind _
      rw [← hy]; rfl
  · simp at h
    have : i = l.length := by omega
    subst this
    refine Ru.exit ?_
    simp only [Then, Out, if_true]
    refine Ru.sreg (Rg.ret (Ru.ret (fin _ _ hf ?_)))
    rw [List.drop_length] at ht
    exact ⟨_, ht.symm, .inl ⟨t, rfl, by simp (disch := first | decide | omega) [e8], rfl⟩⟩
end Go.Proofs.YtgknegdikgdfeaaDoor.Ev
namespace Go.Proofs.YtgknegdikgdfeaaDoor.Ev
set_option linter.unusedSimpArgs false
set_option linter.unusedVariables false
@[simp] theorem max_ii (a b : Int) (c : CallK) (r : Ev) (st : St) (K : V → St → R) : h_op4_minmax true [.c (iv a), .c (iv b)] c r st K = K (iv (max a b)) st := by
  show K (.sc (.int .i64 (iteB (intLt a b) b a))) st = K (iv (max a b)) st
  have : iteB (intLt a b) b a = max a b := by
    rw [intLt_eq, iteB_eq]
    by_cases h : a < b
    · simp [h]; omega
    · simp [h]; omega
  rw [this]; rfl
def cnt (k : Nat) : Bool := decide (k = 1 ∨ k = 2 ∨ k = 3 ∨ k = 5 ∨ k = 6)
def degIn : List VarD → Nat → Nat
  | [], n => n
  | v :: vs, n => degIn vs (if cnt v.kind then n + 1 else n)
def degOut : List MonoD → Nat → Nat
  | [], m => m
  | x :: xs, m => degOut xs (max m (degIn x.vars 0))
theorem degIn_le : ∀ (l : List VarD) (n : Nat), degIn l n ≤ n + l.length
  | [], n => Nat.le_refl _
  | v :: vs, n => by
    have := degIn_le vs (if cnt v.kind then n + 1 else n)
    simp only [degIn, List.length_cons]
    split at this <;> split <;> simp_all <;> omega
theorem counts_ok {st : St} (hw : WfS st) (k : Nat) : Ca (cF F) 47 [bv k] st (fun v s => Fr st s ∧ v = bl (cnt k)) := by
  refine Ca.of (hf := cf47) rfl rfl [q0] [.tmp q2] rfl rfl rfl fun Q hQ => ?_
  have hF := Fr.refl hw
  refine Ru.sreg (Rg.ret (Ru.sreg ?_))
  simp (disch := first | decide | omega)
  have fin : ∀ ρ b, ρ q2 = bl b → b = cnt k → Q .ret ρ st := fun ρ b h1 h2 => hQ _ _ (.one h1 ⟨hF, by rw [h2]⟩)
  by_cases h1 : k = 1
  · subst h1; simp (disch := first | decide | omega)
    exact Rg.ret (Ru.ret (fin _ true rfl rfl))
  simp (disch := first | decide | omega) [h1]
  by_cases h2 : k = 2
  · subst h2; simp (disch := first | decide | omega)
    exact Rg.ret (Ru.ret (fin _ true rfl rfl))
  simp (disch := first | decide | omega) [h2]
  by_cases h3 : k = 3
  · subst h3; simp (disch := first | decide | omega)
    exact Rg.ret (Ru.ret (fin _ true rfl rfl))
  simp (disch := first | decide | omega) [h3]
  by_cases h5 : k = 5
  · subst h5; simp (disch := first | decide | omega)
    exact Rg.ret (Ru.ret (fin _ true rfl rfl))
  simp (disch := first | decide | omega) [h5]
  by_cases h6 : k = 6
  · subst h6; simp (disch := first | decide | omega)
    exact Rg.ret (Ru.ret (fin _ true rfl rfl))
  simp (disch := first | decide | omega) [h6]
  exact Rg.ret (Ru.ret (fin _ false rfl (by unfold cnt; simp [h1, h2, h3, h5, h6])))
theorem refDegree_ok {st : St} (hw : WfS st) {s : S} {l : List MonoD} (hS : RepSum st s l) (hsm : smallS l = true) : Ca (cF F) 21 [.sc s] st (fun v s => Fr st s ∧ v = iv (degOut l 0)) := by
  refine Ca.of (hf := cf21) rfl rfl [q0] [.tmp q2] rfl rfl rfl fun Q hQ => ?_
  have h12 : l.length ≤ 12 ∧ ∀ m ∈ l, m.vars.length ≤ 8 := by
    unfold smallS at hsm
    simpa using hsm
  obtain ⟨h12, h8⟩ := h12
  obtain ⟨id, off, hs, hc⟩ := hS
  refine Ru.sreg (Rg.ret (Ru.sreg (Rg.ret (Ru.seq (Ru.sreg (Rg.ret ?_))))))
  refine Ru.block (Ru.loop (fun i : Nat => l.length - i) (fun i ρ s' => Fr st s' ∧ i ≤ l.length ∧ ρ q0 = .sc s ∧ ρ q4 = iv i ∧ ∃ t : Nat, t ≤ 8 ∧ ρ q3 = iv t ∧ degOut (l.drop i) t = degOut l 0)
    ⟨0, Fr.refl hw, Nat.zero_le _, rfl, rfl, 0, by omega, rfl, rfl⟩ fun i ρ s' hI => ?_)
  obtain ⟨hf, hi, e0, e4, t, ht8, e3, ht⟩ := hI
  refine Ru.seq (Ru.sreg ?_)
  simp (disch := first | decide | omega) [e0, e4, lnS_sl hs]
  refine Rg.ret (Ru.cond rfl (fun h => ?_) fun h => ?_)
  · simp at h
    have hlt : i < l.length := by omega
    have hgi := List.getElem?_eq_getElem hlt
    generalize l[i] = m at hgi
    obtain ⟨hc1, sv, hc2, idv, offv, hsv, hcv⟩ := hc i m hgi
    have hm8 := h8 m (List.mem_of_getElem? hgi)
    have hd := drop_cons hgi
    refine Ru.skip (Ru.seq (Ru.block (Ru.sreg (Rg.ret (Ru.seq (Ru.sreg (Rg.ret ?_)))))))
    refine Ru.block (Ru.loop (fun k : Nat => m.vars.length - k) (fun k ρ s' => Fr st s' ∧ k ≤ m.vars.length ∧ ρ q0 = .sc s ∧ ρ q4 = iv i ∧ ρ q3 = iv t ∧ ρ q6 = iv k ∧ ∃ y : Nat, y ≤ k ∧ ρ q5 = iv y ∧ degIn (m.vars.drop k) y = degIn m.vars 0)
      ⟨0, hf, Nat.zero_le _, ?_, ?_, ?_, rfl, 0, by omega, rfl, rfl⟩ fun k ρ s4 hJ => ?_)
    all_goals try (simp (disch := first | decide | omega) [e0, e4, e3]; done)
    obtain ⟨f4, hk, e0, e4, e3, e6, y, hyk, e5, hy⟩ := hJ
    have g2 := f4.rd hc2
    refine Ru.seq (Ru.sreg ?_)
    simp (disch := first | decide | omega) [e0, e4, e6, ixs_sl hs hlt, g2, lnS_sl hsv]
    refine Rg.ret (Ru.cond rfl (fun h => ?_) fun h => ?_)
    · simp at h
      have hlk : k < m.vars.length := by omega
      have hgk := List.getElem?_eq_getElem hlk
      generalize m.vars[k] = w at hgk
      obtain ⟨k1, k2⟩ := hcv k w hgk
      have hdk := drop_cons hgk
      have j1 := f4.rd k1
      refine Ru.skip (Ru.seq (Ru.block (Ru.sreg ?_)))
      simp (disch := first | decide | omega) [e0, e4, e6, ixs_sl hs hlt, g2, ixs_sl hsv hlk, j1]
      refine Rg.call (counts_ok f4.wf w.kind) fun v s6 h => ?_
      obtain ⟨f6, rfl⟩ := h
      refine Rg.ret (Ru.cond rfl (fun h => ?_) fun h => ?_)
      · refine Ru.reg ?_
        simp (disch := first | decide | omega) [e5]
        refine Rg.ret (show Ru (cF F) (.reg _ _) _ _ _ from Ru.reg ?_)
        simp (disch := first | decide | omega) [e6]
        refine Rg.ret ⟨k + 1, by omega, f4.trans f6, by omega, ?_, ?_, ?_, ?_, y + 1, by omega, ?_, ?_⟩
        all_goals try (simp (disch := first | decide | omega) [e0, e4, e3, e6, e5]; done)
        rw [← hy, hdk]
        show _ = degIn _ (if cnt w.kind then y + 1 else y)
        rw [h, if_pos rfl]
      · refine Ru.skip (show Ru (cF F) (.reg _ _) _ _ _ from Ru.reg ?_)
        simp (disch := first | decide | omega) [e6]
        refine Rg.ret ⟨k + 1, by omega, f4.trans f6, by omega, ?_, ?_, ?_, ?_, y, by omega, ?_, ?_⟩
        all_goals try (simp (disch := first | decide | omega) [e0, e4, e3, e6, e5]; done)
        rw [← hy, hdk]
        show _ = degIn _ (if cnt w.kind then y + 1 else y)
        rw [h]; rfl
    · simp at h
      have : k = m.vars.length := by omega
      subst this
      refine Ru.exit ?_
      simp only [Then, Out, if_true]
      rw [List.drop_length] at hy
      refine Ru.reg ?_
      simp (disch := first | decide | omega) [e3, e5]
      refine Rg.ret (show Ru (cF F) (.reg _ _) _ _ _ from Ru.reg ?_)
      simp (disch := first | decide | omega) [e4]
      refine Rg.ret ⟨i + 1, by omega, f4, by omega, ?_, ?_, max t y, by omega, (by show iv (max (t : Int) y) = iv ((max t y : Nat) : Int); congr 2; omega), ?_⟩
      all_goals try (simp (disch := first | decide | omega) [e0, e3, e4, e5]; done)
      rw [← ht, hd]
      show _ = degOut _ (max t (degIn m.vars 0))
      rw [← hy]; rfl
  · simp at h
    have : i = l.length := by omega
    subst this
    refine Ru.exit ?_
    simp only [Then, Out, if_true]
    refine Ru.sreg ?_
    simp (disch := first | decide | omega) [e3]
    refine Rg.ret (Ru.ret (hQ _ _ (.one rfl ⟨hf, ?_⟩)))
    rw [List.drop_length] at ht
    rw [← ht]; rfl
end Go.Proofs.YtgknegdikgdfeaaDoor.Ev
namespace Go.Proofs.YtgknegdikgdfeaaDoor.Ev
set_option linter.unusedSimpArgs false
set_option linter.unusedVariables false
theorem degree_ok {st : St} (hw : WfS st) {s : S} {l : List MonoD} (hS : RepSum st s l) (hsm : smallS l = true) : Ca (cF F) 20 [.sc s] st (fun v s => Fr st s ∧ v = iv (degOut l 0)) := by
  refine Ca.of (hf := cf20) rfl rfl [q0] [.tmp q2] rfl rfl rfl fun Q hQ => ?_
  have h12 : l.length ≤ 12 ∧ ∀ m ∈ l, m.vars.length ≤ 8 := by
    unfold smallS at hsm
    simpa using hsm
  obtain ⟨h12, h8⟩ := h12
  obtain ⟨id, off, hs, hc⟩ := hS
  refine Ru.sreg (Rg.ret (Ru.sreg (Rg.ret (Ru.seq (Ru.seq (Ru.reg ?_))))))
  simp (disch := first | decide | omega) [lnS_sl hs]
  refine Rg.ret (Ru.block (Ru.loop (fun i : Nat => l.length - i) (fun i ρ s' => Fr st s' ∧ i ≤ l.length ∧ ρ q9 = .sc s ∧ ρ q10 = iv l.length ∧ ρ q11 = iv i ∧ ∃ t : Nat, t ≤ 8 ∧ ρ q3 = iv t ∧ degOut (l.drop i) t = degOut l 0)
    ⟨0, Fr.refl hw, Nat.zero_le _, rfl, rfl, rfl, 0, by omega, rfl, rfl⟩ fun i ρ s' hI => ?_))
  obtain ⟨hf, hi, e9, e10, e11, t, ht8, e3, ht⟩ := hI
  refine Ru.sreg ?_
  simp (disch := first | decide | omega) [e11, e10]
  refine Rg.ret (Ru.seq (Ru.cond rfl (fun h => ?_) fun h => ?_))
  · simp at h
    have hlt : i < l.length := by omega
    have hgi := List.getElem?_eq_getElem hlt
    generalize l[i] = m at hgi
    obtain ⟨hc1, sv, hc2, idv, offv, hsv, hcv⟩ := hc i m hgi
    have hm8 := h8 m (List.mem_of_getElem? hgi)
    have hd := drop_cons hgi
    have g1 := hf.rd hc1
    have g2 := hf.rd hc2
    refine Ru.skip (Ru.seq (Ru.block (Ru.sreg ?_)))
    simp (disch := first | decide | omega) [e11, e9, ixs_sl hs hlt, rdN_succ, g1, g2]
    have f2 : Fr s' (wr (new s' [us 0, zn]) s'.next 0 [us m.coef, sv]) := fr_mk hf.wf _ _
    have b1 : rd (wr (new s' [us 0, zn]) s'.next 0 [us m.coef, sv]) s'.next 1 = some sv := by rw [rd_mk (by rfl)]; simp
    generalize wr (new s' [us 0, zn]) s'.next 0 [us m.coef, sv] = s2 at f2 b1 ⊢
    refine Rg.ret (Ru.sreg (Rg.ret (Ru.seq (Ru.seq (Ru.reg ?_)))))
    simp (disch := first | decide | omega) [b1, lnS_sl hsv]
    refine Rg.ret (Ru.block (Ru.loop (fun k : Nat => m.vars.length - k) (fun k ρ s' => Fr st s' ∧ k ≤ m.vars.length ∧ ρ q9 = .sc s ∧ ρ q10 = iv l.length ∧ ρ q11 = iv i ∧ ρ q3 = iv t ∧ ρ q16 = .sc sv ∧ ρ q17 = iv m.vars.length ∧
        ρ q18 = iv k ∧ ∃ y : Nat, y ≤ k ∧ ρ q6 = iv y ∧ degIn (m.vars.drop k) y = degIn m.vars 0)
      ⟨0, hf.trans f2, Nat.zero_le _, ?_, ?_, ?_, ?_, rfl, rfl, rfl, 0, by omega, rfl, rfl⟩ fun k ρ s4 hJ => ?_))
    all_goals try (simp (disch := first | decide | omega) [e9, e10, e11, e3]; done)
    obtain ⟨f4, hk, e9, e10, e11, e3, e16, e17, e18, y, hyk, e6, hy⟩ := hJ
    refine Ru.sreg ?_
    simp (disch := first | decide | omega) [e18, e17]
    refine Rg.ret (Ru.seq (Ru.cond rfl (fun h => ?_) fun h => ?_))
    · simp at h
      have hlk : k < m.vars.length := by omega
      have hgk := List.getElem?_eq_getElem hlk
      generalize m.vars[k] = w at hgk
      obtain ⟨k1, k2⟩ := hcv k w hgk
      have hdk := drop_cons hgk
      have j1 := f4.rd k1
      have j2 := f4.rd k2
      refine Ru.skip (Ru.seq (Ru.block (Ru.sreg ?_)))
      simp (disch := first | decide | omega) [e18, e16, ixs_sl hsv hlk, rdN_succ, j1, j2]
      have f5 : Fr s4 (wr (new s4 [bs 0, is 0]) s4.next 0 [bs w.kind, is w.index]) := fr_mk f4.wf _ _
      have w0 : rd (wr (new s4 [bs 0, is 0]) s4.next 0 [bs w.kind, is w.index]) s4.next 0 = some (bs w.kind) := by rw [rd_mk (by rfl)]; simp
      generalize wr (new s4 [bs 0, is 0]) s4.next 0 [bs w.kind, is w.index] = s5 at f5 w0 ⊢
      refine Rg.ret (Ru.sreg ?_)
      simp (disch := first | decide | omega) [w0]
      refine Rg.ret (Ru.block (Ru.seq ?_))
      -- whichever way: the flag is whether the kind counts
      refine Ru.imp (Q := fun x ρ' s' => x = .normal ∧ s' = s5 ∧ ρ' q24 = bl (cnt w.kind) ∧ ρ' q9 = .sc s ∧ ρ' q10 = iv l.length ∧ ρ' q11 = iv i ∧ ρ' q3 = iv t ∧ ρ' q16 = .sc sv ∧ ρ' q17 = iv m.vars.length ∧ ρ' q18 = iv k ∧ ρ' q6 = iv y) ?_ fun x ρ' s' h => ?_
      · refine Ru.sreg ?_
        simp (disch := first | decide | omega)
        refine Rg.ret (Ru.cond rfl (fun h => ?_) fun h => ?_)
        · refine Ru.skip ⟨rfl, rfl, ?_, ?_, ?_, ?_, ?_, ?_, ?_, ?_, ?_⟩
          all_goals try (simp (disch := first | decide | omega) [e9, e10, e11, e3, e16, e17, e18, e6]; done)
          simp at h; simp [h, cnt]
        refine Ru.sreg ?_
        simp (disch := first | decide | omega)
        simp at h
        refine Rg.ret (Ru.cond rfl (fun h => ?_) fun h => ?_)
        · refine Ru.skip ⟨rfl, rfl, ?_, ?_, ?_, ?_, ?_, ?_, ?_, ?_, ?_⟩
          all_goals try (simp (disch := first | decide | omega) [e9, e10, e11, e3, e16, e17, e18, e6]; done)
          simp at h; simp [h, cnt]
        refine Ru.sreg ?_
        simp (disch := first | decide | omega)
        simp at h
        refine Rg.ret (Ru.cond rfl (fun h => ?_) fun h => ?_)
        · refine Ru.skip ⟨rfl, rfl, ?_, ?_, ?_, ?_, ?_, ?_, ?_, ?_, ?_⟩
          all_goals try (simp (disch := first | decide | omega) [e9, e10, e11, e3, e16, e17, e18, e6]; done)
          simp at h; simp [h, cnt]
        refine Ru.sreg ?_
        simp (disch := first | decide | omega)
        simp at h
        refine Rg.ret (Ru.cond rfl (fun h => ?_) fun h => ?_)
        · refine Ru.skip ⟨rfl, rfl, ?_, ?_, ?_, ?_, ?_, ?_, ?_, ?_, ?_⟩
          all_goals try (simp (disch := first | decide | omega) [e9, e10, e11, e3, e16, e17, e18, e6]; done)
          simp at h; simp [h, cnt]
        refine Ru.reg ?_
        simp (disch := first | decide | omega)
        simp at h
        refine Rg.ret ?_
        refine ⟨rfl, ?_, ?_, ?_, ?_, ?_, ?_, ?_, ?_, ?_⟩
        all_goals try (simp (disch := first | decide | omega) [e9, e10, e11, e3, e16, e17, e18, e6]; done)
        show bl (decide (w.kind = 6)) = bl (cnt w.kind)
        simp_all [cnt]
      obtain ⟨rfl, rfl, e24, e9, e10, e11, e3, e16, e17, e18, e6⟩ := h
      show Ru (cF F) (.cond _ _ _) _ _ _
      refine Ru.cond e24 (fun h => ?_) fun h => ?_
      · refine Ru.reg ?_
        simp (disch := first | decide | omega) [e6]
        refine Rg.ret (show Ru (cF F) (.reg _ _) _ _ _ from Ru.reg ?_)
        simp (disch := first | decide | omega) [e18]
        refine Rg.ret ⟨k + 1, by omega, f4.trans f5, by omega, ?_, ?_, ?_, ?_, ?_, ?_, ?_, y + 1, by omega, ?_, ?_⟩
        all_goals try (simp (disch := first | decide | omega) [e9, e10, e11, e3, e16, e17, e18, e6]; done)
        rw [← hy, hdk]
        show _ = degIn _ (if cnt w.kind then y + 1 else y)
        rw [h, if_pos rfl]
      · refine Ru.skip (show Ru (cF F) (.reg _ _) _ _ _ from Ru.reg ?_)
        simp (disch := first | decide | omega) [e18]
        refine Rg.ret ⟨k + 1, by omega, f4.trans f5, by omega, ?_, ?_, ?_, ?_, ?_, ?_, ?_, y, by omega, ?_, ?_⟩
        all_goals try (simp (disch := first | decide | omega) [e9, e10, e11, e3, e16, e17, e18, e6]; done)
        rw [← hy, hdk]
        show _ = degIn _ (if cnt w.kind then y + 1 else y)
        rw [h]; rfl
    · simp at h
      have : k = m.vars.length := by omega
      subst this
      refine Ru.exit ?_
      simp only [Then, Out, if_true]
      rw [List.drop_length] at hy
      refine Ru.reg ?_
      simp (disch := first | decide | omega) [e3, e6]
      refine Rg.ret (show Ru (cF F) (.reg _ _) _ _ _ from Ru.reg ?_)
      simp (disch := first | decide | omega) [e11]
      refine Rg.ret ⟨i + 1, by omega, f4, by omega, ?_, ?_, ?_, max t y, by omega, (by show iv (max (t : Int) y) = iv ((max t y : Nat) : Int); congr 2; omega), ?_⟩
      all_goals try (simp (disch := first | decide | omega) [e9, e10, e11, e3, e6]; done)
      rw [← ht, hd]
      show _ = degOut _ (max t (degIn m.vars 0))
      rw [← hy]; rfl
  · simp at h
    have : i = l.length := by omega
    subst this
    refine Ru.exit ?_
    simp only [Then, Out, if_true]
    refine Ru.sreg ?_
    simp (disch := first | decide | omega) [e3]
    refine Rg.ret (Ru.ret (hQ _ _ (.one rfl ⟨hf, ?_⟩)))
    rw [List.drop_length] at ht
    rw [← ht]; rfl
end Go.Proofs.YtgknegdikgdfeaaDoor.Ev
namespace Go.Proofs.YtgknegdikgdfeaaDoor.Ev
set_option linter.unusedSimpArgs false
set_option linter.unusedVariables false
theorem value_bad {st : St} (hw : WfS st) {x : Int} (hx : ¬ (0 ≤ x ∧ x < 4)) (s : S) (e : Nat → S) : Ca (cF F) 15 [iv x, .sc s, .agg (envV e)] st (fun v s => Fr st s ∧ v = .tup [(false, [us 0]), (false, [is 1])]) := by
  refine Ca.of (hf := cf15) rfl rfl [q0, q1, q2] [.tmp q6, .tmp q7] rfl rfl rfl fun Q hQ => ?_
  have f1 : Fr st (new st (envV e)) := (Fr.refl hw).new _
  refine Ru.sreg ?_
  simp (disch := first | decide | omega)
  refine Rg.ret (Ru.seq (Ru.sreg ?_))
  simp (disch := first | decide | omega)
  refine Rg.call (fValid (v := 32) rfl rfl _ _) fun v s' h => ?_
  obtain ⟨rfl, rfl⟩ := h
  rw [decide_eq_false hx]
  simp
  refine Rg.ret (Ru.cond rfl (fun h => ?_) fun h => by cases h)
  exact Ru.sreg (Rg.ret (Ru.ret (hQ _ _ (.two rfl rfl ⟨f1, rfl⟩))))
theorem refValue_bad {st : St} (hw : WfS st) {x : Int} (hx : ¬ (0 ≤ x ∧ x < 4)) (s : S) (e : Nat → S) : Ca (cF F) 19 [iv x, .sc s, .agg (envV e)] st (fun v s => Fr st s ∧ v = .tup [(false, [us 0]), (false, [is 1])]) := by
  refine Ca.of (hf := cf19) rfl rfl [q0, q1, q2] [.tmp q6, .tmp q7] rfl rfl rfl fun Q hQ => ?_
  have f1 : Fr st (new st (envV e)) := (Fr.refl hw).new _
  refine Ru.sreg ?_
  simp (disch := first | decide | omega)
  refine Rg.ret (Ru.seq (Ru.sreg ?_))
  simp (disch := first | decide | omega)
  refine Rg.call (refValid_ok _ _) fun v s' h => ?_
  obtain ⟨rfl, rfl⟩ := h
  rw [decide_eq_false hx]
  simp
  refine Rg.ret (Ru.cond rfl (fun h => ?_) fun h => by cases h)
  exact Ru.sreg (Rg.ret (Ru.ret (hQ _ _ (.two rfl rfl ⟨f1, rfl⟩))))
theorem holdsAll_fr {s t : St} (h : Fr s t) : ∀ {l : List (Nat × List S)}, holdsAll s.heap l = true → holdsAll t.heap l = true
  | [], _ => rfl
  | p :: r, hh => by
    have hh : (holds1 s.heap p && holdsAll s.heap r) = true := hh
    simp only [Bool.and_eq_true] at hh
    show (holds1 t.heap p && holdsAll t.heap r) = true
    rw [holdsAll_fr h hh.2, Bool.and_true]
    have h1 := hh.1
    unfold holds1 at h1 ⊢
    cases hb : s.heap.get p.1 with
    | none => rw [hb] at h1; cases h1
    | some b => rw [hb] at h1; rw [h.old _ _ hb]; exact h1
theorem lies_of {st : St} (hw : WfS st) (hh : holdsAll st.heap l0 = true) {x : Nat} (hx : x < 4) : ∃ l, Lies st 0 x (pC x) l := by
  have h1 := holdsAll_mem hh (List.mem_cons_self)
  unfold holds1 at h1
  split at h1
  · rename_i b hb
    split at h1
    · rename_i c hk hc
      have he := lEq_of h1
      obtain ⟨e1, e2⟩ := cellsAt_get hc
      have hr : ∀ i y, c[i]? = some y → rd st 0 i = some y := fun i y hy => by
        have h2 := e2 i y hy
        rw [Nat.zero_add] at h2
        unfold rd
        rw [show st.heap.get 0 = some b from hb]
        exact h2
      rw [he] at hr
      have main : ∃ l, rdN st 0 (x * 5) 5 = some (us (pC x) :: l) := by
        rcases (show x = 0 ∨ x = 1 ∨ x = 2 ∨ x = 3 by omega) with rfl | rfl | rfl | rfl
        all_goals exact ⟨_, rdN_get (l := [_, _, _, _, _]) rfl fun i y hy => by
          have hi : i < 5 := by have := (List.getElem?_eq_some_iff.1 hy).1; simpa using this
          rcases (show i = 0 ∨ i = 1 ∨ i = 2 ∨ i = 3 ∨ i = 4 by omega) with rfl | rfl | rfl | rfl | rfl <;> (cases hy; exact hr _ _ rfl)⟩
      obtain ⟨l, hl⟩ := main
      exact ⟨l, hw, hx, hl, pC_pos x, by have := pC_lt x; omega⟩
    · cases h1
  · cases h1
end Go.Proofs.YtgknegdikgdfeaaDoor.Ev
namespace Go.Proofs.YtgknegdikgdfeaaDoor.Ev
set_option linter.unusedSimpArgs false
set_option linter.unusedVariables false
@[simp] theorem xE0 (a b : S) (c : CallK) (r : Ev) (st : St) (K : V → St → R) : xE 0 (.tup [(false, [a]), (false, [b])]) c r st K = K (.sc a) st := rfl
@[simp] theorem xE1 (a b : S) (c : CallK) (r : Ev) (st : St) (K : V → St → R) : xE 1 (.tup [(false, [a]), (false, [b])]) c r st K = K (.sc b) st := rfl
theorem live_ok {st : St} (hh : holdsAll st.heap l0 = true) : Ca (cO l0 O0 F) 9 [] st (fun v s => v = bl true ∧ s = st) := Ca.known rfl hh
/-- both Values: the same two results -/
theorem both {st : St} (hw : WfS st) (hh : holdsAll st.heap l0 = true) (f : Int) {s : S} {l : List MonoD} (hS : RepSum st s l) (hsm : smallS l = true) {e : Nat → S} {L : Nat → List Nat} (hE : EnvR st e L) :
    ∃ (a : Nat) (b : Int), (∀ st', Fr st st' → Ca (cF F) 15 [iv f, .sc s, .agg (envV e)] st' (fun v s => Fr st' s ∧ v = .tup [(false, [us a]), (false, [is b])])) ∧ (∀ st', Fr st st' → Ca (cF F) 19 [iv f, .sc s, .agg (envV e)] st' (fun v s => Fr st' s ∧ v = .tup [(false, [us a]), (false, [is b])])) := by
  by_cases hf : 0 ≤ f ∧ f < 4
  · obtain ⟨x, rfl⟩ := Int.eq_ofNat_of_zero_le hf.1
    have hx : x < 4 := by omega
    have h1 : ∀ st', Fr st st' → Ca (cF F) 15 [iv x, .sc s, .agg (envV e)] st' (fun v s => Fr st' s ∧ v = valV (outerV (pC x) L l 0)) := fun st' k => by
      obtain ⟨l5, hl⟩ := lies_of k.wf (holdsAll_fr k hh) hx
      exact value_ok hl (hS.fr k) hsm (hE.fr k)
    have h2 : ∀ st', Fr st st' → Ca (cF F) 19 [iv x, .sc s, .agg (envV e)] st' (fun v s => Fr st' s ∧ v = valV (outerV (pC x) L l 0)) := fun st' k => refValue_ok k.wf hx (hS.fr k) hsm (hE.fr k)
    cases ho : outerV (pC x) L l 0 with
    | none => rw [ho] at h1 h2; exact ⟨0, 2, h1, h2⟩
    | some t => rw [ho] at h1 h2; exact ⟨t, 0, h1, h2⟩
  · exact ⟨0, 1, fun st' k => value_bad k.wf hf s e, fun st' k => refValue_bad k.wf hf s e⟩
theorem law_ok {st : St} (hw : WfS st) (hh : holdsAll st.heap l0 = true) (f : Int) {s : S} {l : List MonoD} (hS : RepSum st s l) (hlen : l.length < 9223372036854775808) {e : Nat → S} {L : Nat → List Nat} (hE : EnvR st e L) (Q : X → Ev → St → Prop) (hQ : ∀ ρ s', ρ q6 = bl true → Q .ret ρ s') :
    Ru (cO l0 O0 F) cf5.body (updE [q0, q1, q2] [iv f, .sc s, .agg (envV e)] ev0) st Q := by
  have f1 : Fr st (new st (envV e)) := (Fr.refl hw).new _
  have hbox : rdN (new st (envV e)) st.next 0 7 = some (envV e) := rdN_get rfl fun i y hy => by rw [rd_new, if_pos rfl, Nat.zero_add]; exact hy
  refine Ru.sreg ?_
  simp (disch := first | decide | omega)
  refine Rg.ret (Ru.seq (Ru.sreg ?_))
  simp (disch := first | decide | omega)
  refine Rg.call (Ca.none rfl (small_ok f1.wf (hS.fr f1) hlen)) fun v s2 h => ?_
  obtain ⟨f2, rfl⟩ := h
  simp
  have k2 := f1.trans f2
  refine Rg.ret (Ru.cond rfl (fun h => ?_) fun h => ?_)
  · refine Ru.sreg ?_
    simp (disch := first | decide | omega)
    refine Rg.call (live_ok (holdsAll_fr k2 hh)) fun v s3 h => ?_
    obtain ⟨rfl, rfl⟩ := h
    exact Rg.ret (Ru.ret (hQ _ _ rfl))
  simp at h
  obtain ⟨a, b, hv1, hv2⟩ := both hw hh f hS h hE
  refine Ru.skip (Ru.sreg ?_)
  simp (disch := first | decide | omega) [f2.rdN hbox]
  refine Rg.call (Ca.none rfl (hv1 _ k2)) fun v s3 h3 => ?_
  obtain ⟨f3, rfl⟩ := h3
  simp
  have k3 := k2.trans f3
  refine Rg.ret (Ru.sreg ?_)
  simp (disch := first | decide | omega) [(f2.trans f3).rdN hbox]
  refine Rg.call (Ca.none rfl (hv2 _ k3)) fun v s4 h4 => ?_
  obtain ⟨f4, rfl⟩ := h4
  simp
  have k4 := k3.trans f4
  refine Rg.ret (Ru.sreg ?_)
  simp (disch := first | decide | omega)
  refine Rg.call (Ca.none rfl (degree_ok k4.wf (hS.fr k4) h)) fun v s5 h5 => ?_
  obtain ⟨f5, rfl⟩ := h5
  have k5 := k4.trans f5
  refine Rg.call (Ca.none rfl (refDegree_ok k5.wf (hS.fr k5) h)) fun v s6 h6 => ?_
  obtain ⟨f6, rfl⟩ := h6
  have k6 := k5.trans f6
  simp (disch := first | decide | omega)
  refine Rg.call (live_ok (holdsAll_fr k6 hh)) fun v s7 h7 => ?_
  obtain ⟨rfl, rfl⟩ := h7
  exact Rg.ret (Ru.ret (hQ _ _ rfl))
/-- the evaluator says true -/
theorem runs_open {st : St} (hw : WfS st) (hh : holdsAll st.heap l0 = true) (f : Int) {s : S} {l : List MonoD} (hS : RepSum st s l) (hlen : l.length < 9223372036854775808) {e : Nat → S} {L : Nat → List Nat} (hE : EnvR st e L) :
    ∃ k, callK F (runO l0 O0 F k) 5 [iv f, .sc s, .agg (envV e)] st saysTrue = .done .normal .leaf ⟨.leaf, 0, 0⟩ := by
  obtain ⟨x, t, s', ⟨rfl, h1⟩, n, h2⟩ := law_ok hw hh f hS hlen hE (fun x ρ s' => x = .ret ∧ ρ q6 = bl true) (fun ρ s' h => ⟨rfl, h⟩) (setLp [q0, q1, q2] [iv f, .sc s, .agg (envV e)] .leaf) (by rw [rho_setLp, rho_leaf])
  refine ⟨n, ?_⟩
  show setL [q0, q1, q2] [iv f, .sc s, .agg (envV e)] .leaf (fun tm => retK cf5.results saysTrue (runO l0 O0 F n cf5.body tm st)) = _
  rw [setL_eq', ← runC_O, h2 n (Nat.le_refl _)]
  show fin1 saysTrue s' [rho t q6] = _
  rw [h1]; rfl
end Go.Proofs.YtgknegdikgdfeaaDoor.Ev
namespace Go.Proofs.YtgknegdikgdfeaaDoor.Ev
open Go.RowKit Go.Proofs Go.ChangeShapes Go.WideShapes
set_option linter.unusedSimpArgs false
set_option linter.unusedVariables false
section
variable {H : Type} {enc : TypeId × Value → H} {W : World} {g : Nat} {held : Bool}
abbrev VarP := Nat × Int
abbrev MonP := Nat × List VarP
abbrev RVar := PairRep (fun _ l (a : Nat) => l = [bs a]) (fun _ l (a : Int) => l = [is a])
abbrev RMon := PairRep (fun _ l (a : Nat) => l = [us a]) (SlRep 2 RVar)
abbrev RNs := SlRep 1 (fun _ l (a : Nat) => l = [us a])
theorem z47 : Tryd.prog.cellsOf 47 = 2 := by kernel_rfl
theorem z44 : Tryd.prog.cellsOf 44 = 2 := by kernel_rfl
theorem z45 : Tryd.prog.cellsOf 45 = 1 := by kernel_rfl
theorem z3' : Tryd.prog.cellsOf 3 = 1 := by kernel_rfl
theorem z33' : Tryd.prog.cellsOf 33 = 1 := by kernel_rfl
theorem z42' : Tryd.prog.cellsOf 42 = 1 := by kernel_rfl
theorem z30' : Tryd.prog.cellsOf 30 = 1 := by kernel_rfl
theorem z32' : Tryd.prog.cellsOf 32 = 7 := by kernel_rfl
theorem SlRep.fr {α : Type} {z : Nat} {Rep : St → List S → α → Prop} (hm : ∀ {s s' : St} {l : List S} {a : α}, Rep s l a → Fr s s' → Rep s' l a) {s s' : St} {l : List S} {a : List α} (h : SlRep z Rep s l a) (k : Fr s s') : SlRep z Rep s' l a := by
  obtain ⟨x, id, h1, h2, h3, h4⟩ := h
  refine ⟨x, id, h1, h2, h3, fun i y hy => ?_⟩
  obtain ⟨le, e1, e2, e3⟩ := h4 i y hy
  exact ⟨le, e1, fun j x hx => k.rd (e2 j x hx), hm e3 k⟩
theorem RVar.fr {s s' : St} {l : List S} {a : VarP} (h : RVar s l a) (k : Fr s s') : RVar s' l a := h
theorem RMon.fr {s s' : St} {l : List S} {a : MonP} (h : RMon s l a) (k : Fr s s') : RMon s' l a := by
  obtain ⟨l0, l1, h1, h2, h3⟩ := h
  exact ⟨l0, l1, h1, h2, SlRep.fr (Rep := RVar) (fun h _ => h) h3 k⟩
theorem rVar : Rdr enc Tryd.prog W g held 47 RVar := rdr_struct2 Tryd.underlying47 rfl (by rw [z45]) (by rw [z47, z45, z3']) (fun h _ => h) (rdr_u8 Tryd.underlying45) (rdr_i64 Tryd.underlying3)
theorem rVars : Rdr enc Tryd.prog W g held 42 (SlRep 2 RVar) := by
  have := rdr_slice (Rep := RVar) (W := W) (g := g) (enc := enc) (held := held) Tryd.underlying42 (by rw [z47]; decide) (fun h _ => h) rVar
  rw [z47] at this; exact this
theorem rMon : Rdr enc Tryd.prog W g held 44 RMon := rdr_struct2 Tryd.underlying44 rfl (by rw [z33']) (by rw [z44, z33', z42']) (fun h _ => h) (rdr_u64 Tryd.underlying33) rVars
theorem rSum : Rdr enc Tryd.prog W g held 22 (SlRep 2 RMon) := by
  have := rdr_slice (Rep := RMon) (W := W) (g := g) (enc := enc) (held := held) Tryd.underlying22 (by rw [z44]; decide) RMon.fr rMon
  rw [z44] at this; exact this
theorem rNs : Rdr enc Tryd.prog W g held 30 RNs := by
  have := rdr_slice (W := W) (g := g) (enc := enc) (held := held) Tryd.underlying30 (by rw [z33']; decide) (fun h _ => h) (rdr_u64 Tryd.underlying33)
  rw [z33'] at this; exact this
theorem rEnv : Rdr enc Tryd.prog W g held 32 (ManyRep 7 1 RNs) := by
  have := rdr_structN (Rep := RNs) (W := W) (g := g) (enc := enc) (held := held) (e := 30) Tryd.underlying32 (fun i f hf => by
    have hi : i < 7 := by have := (Array.getElem?_eq_some_iff.1 hf).1; simpa using this
    rw [z30']
    rcases (show i = 0 ∨ i = 1 ∨ i = 2 ∨ i = 3 ∨ i = 4 ∨ i = 5 ∨ i = 6 by omega) with rfl | rfl | rfl | rfl | rfl | rfl | rfl <;> (cases hf; exact ⟨rfl, rfl⟩)) (by rw [z32', z30']; rfl) (fun h k => SlRep.fr (Rep := fun _ l (a : Nat) => l = [us a]) (fun h _ => h) h k) rNs
  rw [z30'] at this; exact this
/-! to the shapes of the law -/
def toVar (v : VarP) : VarD := ⟨v.1, v.2⟩
def toMon (m : MonP) : MonoD := ⟨m.1, m.2.map toVar⟩
theorem vars_of {st : St} {l : List S} {vs : List VarP} (h : SlRep 2 RVar st l vs) : ∃ s, l = [s] ∧ RepVars st s (vs.map toVar) := by
  obtain ⟨s, id, rfl, h2, h3, h4⟩ := h
  refine ⟨s, rfl, id, 0, by simpa using h2, fun i v hv => ?_⟩
  rw [List.getElem?_map, Option.map_eq_some_iff] at hv
  obtain ⟨y, hy, rfl⟩ := hv
  obtain ⟨le, e1, e2, l0, l1, rfl, r0, r1⟩ := h4 i y hy
  subst r0 r1
  have a0 := e2 0 _ rfl
  have a1 := e2 1 _ rfl
  rw [Nat.zero_add]
  exact ⟨a0, a1⟩
theorem sum_of {st : St} {l : List S} {ms : List MonP} (h : SlRep 2 RMon st l ms) : ∃ s, l = [s] ∧ RepSum st s (ms.map toMon) ∧ ms.length ≤ maxLen := by
  obtain ⟨s, id, rfl, h2, h3, h4⟩ := h
  refine ⟨s, rfl, ⟨id, 0, by simpa using h2, fun i m hm => ?_⟩, h3⟩
  rw [List.getElem?_map, Option.map_eq_some_iff] at hm
  obtain ⟨y, hy, rfl⟩ := hm
  obtain ⟨le, e1, e2, l0, l1, rfl, r0, r1⟩ := h4 i y hy
  obtain ⟨sv, rfl, hv⟩ := vars_of r1
  subst r0
  have a0 := e2 0 _ rfl
  have a1 := e2 1 _ rfl
  rw [Nat.zero_add]
  exact ⟨a0, sv, a1, hv⟩
theorem ns_of {st : St} {l : List S} {ns : List Nat} (h : RNs st l ns) : ∃ s, l = [s] ∧ RepNs st s ns := by
  obtain ⟨s, id, rfl, h2, h3, h4⟩ := h
  refine ⟨s, rfl, id, 0, h2, fun i m hm => ?_⟩
  obtain ⟨le, e1, e2, r0⟩ := h4 i m hm
  subst r0
  have a0 := e2 0 _ rfl
  rw [Nat.zero_add]
  exact a0
theorem env_of {st : St} {l : List S} {ls : List (List Nat)} (h : ManyRep 7 1 RNs st l ls) : ∃ (e : Nat → S) (L : Nat → List Nat), l = envV e ∧ EnvR st e L := by
  obtain ⟨h1, h2, h3⟩ := h
  refine ⟨fun i => l.getD i .nils, fun i => ls.getD i [], ?_, ⟨fun i hi => ?_⟩⟩
  · match l, h1 with
    | [a, b, c, d, e, f, g], _ => rfl
  · have hls : ls[i]? = some (ls.getD i []) := by rw [List.getElem?_eq_getElem (by omega)]; simp [List.getD, List.getElem?_eq_getElem (show i < ls.length by omega)]
    obtain ⟨s, hs, hr⟩ := ns_of (h3 i _ hls)
    have : l.getD i .nils = s := by
      have h5 : (List.take 1 (List.drop (i * 1) l))[0]? = some s := by rw [hs]; rfl
      rw [List.getElem?_take_of_lt (by decide), List.getElem?_drop] at h5
      simp at h5
      simp [List.getD, h5]
    show RepNs st (l.getD i .nils) _
    rw [this]; exact hr
end
end Go.Proofs.YtgknegdikgdfeaaDoor.Ev
