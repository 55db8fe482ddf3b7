/- Whatever the evaluator says of a call, the machine does, for every order of evaluation and every capacity that append draws (callK_ok, closed_law). No further conditions. -/
import Derived.Test.YtffaehgicojjmaaDoorEvB
import Derived.LoopN
import Derived.Scope
import Derived.LaidLaws
import Derived.Lib.LaidTab
import Derived.RowKit3
import Derived.Shaped
import Derived.Test.YtffaehgicojjmaaDoorEvA
namespace Go.Proofs.YtffaehgicojjmaaDoor.Ev
set_option linter.unusedVariables false
set_option linter.unusedSimpArgs false

/-! ### the frame -/
noncomputable def putT (tm : Ev) (d : Option Nat) (v : V) : Ev := match d with | none => tm | some d => upd tm (pathOf d) v
theorem putK_eq (tm : Ev) (d : Option Nat) (v : V) (K : Ev → R) : putK tm (d.map pathOf) v K = K (putT tm d v) := by
  cases d <;> rfl
/-- the guard, by its tmp's number -/
noncomputable def isBo (w : Bool) (v : V) : Option Bool := match v with
  | .any => none
  | v => some (isB w v)
noncomputable def wantN (tm : Ev) (g : Option (Nat × Bool)) : Option Bool := match g with
  | none => some true
  | some g => isBo g.2 (getD' (tm.get g.1))
theorem isBs_eq (w : Bool) (s : S) : isB w (.sc s) = isBs w s := by
  cases s with
  | bool b => cases b <;> cases w <;> rfl
  | _ => rfl
theorem guard_done {tm : Ev} {g : Nat × Bool} {a b : R} {x : X} {tf : PM V} {sf : St} (h1 : guardK g.2 (tm (pathOf g.1)) a b = .done x tf sf) : (wantN tm (some g) = some true ∧ a = .done x tf sf) ∨ (wantN tm (some g) = some false ∧ b = .done x tf sf) := by
  have h2 : ∀ r, isBo g.2 (tm (pathOf g.1)) = r → wantN tm (some g) = r := fun r h => h
  cases hv : tm (pathOf g.1) with
  | sc s =>
    rw [hv] at h1 h2
    have h3 : iteB (isB g.2 (.sc s)) a b = .done x tf sf := by rw [isBs_eq]; exact h1
    cases hb : isB g.2 (.sc s) with
    | true => rw [hb, iteB_true] at h3; exact .inl ⟨h2 _ (by show some (isB g.2 (.sc s)) = _; rw [hb]), h3⟩
    | false => rw [hb, iteB_false] at h3; exact .inr ⟨h2 _ (by show some (isB g.2 (.sc s)) = _; rw [hb]), h3⟩
  | agg l => rw [hv] at h1 h2; exact .inr ⟨h2 _ rfl, h1⟩
  | tup l => rw [hv] at h1 h2; exact .inr ⟨h2 _ rfl, h1⟩
  | any => rw [hv] at h1; cases h1
theorem gop_done {tm : Ev} {gd : Option (Nat × Bool)} {a : (V → St → R) → R} {st : St} {j : V → St → R} {x : X} {tf : PM V} {sf : St} (h : gop tm (gpath gd) a st j = .done x tf sf) : (wantN tm gd = some true ∧ a j = .done x tf sf) ∨ (wantN tm gd = some false ∧ j undefV st = .done x tf sf) := by
  cases gd with
  | none => exact .inl ⟨rfl, h⟩
  | some g => exact guard_done (show guardK g.2 (tm (pathOf g.1)) (a j) (j undefV st) = .done x tf sf from h)
theorem gopD_done {tm : Ev} {gd : Option (Nat × Bool)} {a : (V → Mk → St → R) → R} {mk : Mk} {st : St} {j : V → Mk → St → R} {x : X} {tf : PM V} {sf : St} (h : gopD tm (gpath gd) a mk st j = .done x tf sf) : (wantN tm gd = some true ∧ a j = .done x tf sf) ∨ (wantN tm gd = some false ∧ j undefV mk st = .done x tf sf) := by
  cases gd with
  | none => exact .inl ⟨rfl, h⟩
  | some g => exact guard_done (show guardK g.2 (tm (pathOf g.1)) (a j) (j undefV mk st) = .done x tf sf from h)
theorem putT_get (tm : Ev) (d : Nat) (v : V) (t : Nat) : (putT tm (some d) v).get t = if t = d then some v else tm.get t := by
  show some (upd tm (pathOf d) v (pathOf t)) = _
  by_cases h : t = d
  · subst h; rw [if_pos rfl, upd_same]
  · rw [if_neg h, upd_other tm v fun e => h (pathOf_inj e)]; rfl
theorem putT_off (tm : Ev) (d : Option Nat) (v : V) {p : Pth} (h : d.map pathOf ≠ some p) : putT tm d v p = tm p := by
  cases d with
  | none => rfl
  | some d => exact upd_other tm v fun e => h (by rw [e]; rfl)
theorem put_size (a : Act) (d : Option Tmp) (v : Value) : (a.put d v).tmps.size = a.tmps.size := by cases d <;> simp [Act.put]
theorem put_defers (a : Act) (d : Option Tmp) (v : Value) : (a.put d v).defers = a.defers := by cases d <;> rfl
theorem relF_put {σ : Map} {tm : Ev} {a : Act} {d : Option Nat} {v : V} {v' : Value} {n : Nat} (hf : RelF σ tm a.tmps) (hn : n ≤ a.tmps.size) (hd : dstOk n d = true) (hv : RelV σ v v') : RelF σ (putT tm d v) (a.put d v').tmps := by
  cases d with
  | none => exact hf
  | some d =>
    have hlt : d < n := blt_of hd
    intro t
    rw [putT_get]
    by_cases ht : t = d
    · subst ht
      rw [if_pos rfl]
      simp only [Act.put, getD'_some]
      rw [Array.getD_eq_getD_getElem?, Array.getElem?_setIfInBounds_self_of_lt (by omega)]
      exact hv
    · rw [if_neg ht]
      simp only [Act.put]
      rw [Array.getD_eq_getD_getElem?, Array.getElem?_setIfInBounds_ne (fun h => ht h.symm), ← Array.getD_eq_getD_getElem?]
      exact hf t
def boolIs (w : Bool) : Value → Bool
  | .bool b => decide (b = w)
  | _ => false
theorem relV_bool {σ : Map} {u : V} {v : Value} (h : RelV σ u v) (w : Bool) {b : Bool} (hb : isBo w u = some b) : boolIs w v = b := by
  cases h with
  | agg h => cases hb; rfl
  | tup h => cases hb; rfl
  | any v => cases hb
  | sc h =>
    rename_i s
    have e : isB w (.sc s) = b := by simpa [isBo] using hb
    rw [← e]; symm
    cases h <;> first | rfl | skip
    · rename_i b
      show iteB b w (not w) = _
      cases b <;> cases w <;> rfl
    · rename_i h
      cases v <;> first | rfl | (simp [litV] at h)
theorem wanted_eq {σ : Map} {tm : Ev} {a : Act} {n : Nat} {ops : Array Oper} {o : Oper} {gd : Option (Nat × Bool)} (hf : RelF σ tm a.tmps) (hg : guardT ops.toList o.guard = some gd) {b : Bool} (hb : wantN tm gd = some b) : Region.wanted o (yielded ops a.tmps) = b := by
  unfold Region.wanted
  cases ho : o.guard with
  | none => rw [ho] at hg; simp [guardT] at hg; subst hg; cases hb; rfl
  | some jw =>
    obtain ⟨j, w⟩ := jw
    rw [ho] at hg
    simp only [guardT] at hg
    split at hg
    · rename_i oj hj
      obtain ⟨d, hd, rfl⟩ := Option.map_eq_some_iff.1 hg
      rw [← relV_bool (hf d) w hb]; symm
      have hj' : ops[j]? = some oj := by simpa using hj
      simp only [yielded, hj', Option.bind_some, hd]
      have : a.tmps.getD d undef = (a.tmps[d]?).getD undef := Array.getD_eq_getD_getElem? ..
      rw [this]
      cases ht : a.tmps[d]? with
      | none => rfl
      | some v =>
        cases v with
        | bool b => simp only [Option.getD_some]; cases b <;> cases w <;> rfl
        | _ => rfl
    · cases hg

/-- what a stretch of code does, from (tm, st) to (tf, sf) with exit e -/
def Does (P : Program) (g n : Nat) (tm : Ev) (st : St) (tf : Ev) (sf : St) (run : (Act → World → Prop) → Act → World → Prop) : Prop :=
  Grow st sf ∧
  ∀ (σ : Map) (a : Act) (w : World) (lim : Nat), RelF σ tm a.tmps → Globals σ g → RelH σ st w → Free σ st.next lim → sf.next ≤ lim → n ≤ a.tmps.size →
    ∀ Q : Act → World → Prop, (∀ σ' a' w', Ext σ σ' st sf w w' sf.low → RelF σ' tf a'.tmps → a'.tmps.size = a.tmps.size → a'.defers = a.defers → Q a' w') → run Q a w
theorem Globals.mono {σ τ : Map} {g : Nat} (h : Globals σ g) (hl : σ.le τ) : Globals τ g := fun i hi => let ⟨c, hc⟩ := h i hi; ⟨c, hl _ _ hc⟩

section
variable {P : Program} {g n : Nat} {call : CallK} {ops : Array Oper} {Qx : Exit → Act → World → Prop}
theorem seq_region (hcall : CallOk P g call) : ∀ (rest : List Oper) (k : Nat), (∀ i, rest[i]? = ops[k + i]?) → ∀ {tm : Ev} {st : St} {K : Ev → St → R} {x : X} {tz : PM V} {sz : St},
    evOps call (compRegion P g n ops.toList rest) tm st K = .done x tz sz →
    ∃ tf sf, K tf sf = .done x tz sz ∧ (∀ p, (∀ d, d ∈ (compRegion P g n ops.toList rest).map (·.dst) → d ≠ some p) → tf p = tm p) ∧ Does P g n tm st tf sf (fun Q a w => ∀ Qx : Exit → Act → World → Prop, (∀ a' w', Q a' w' → Qx .normal a' w') → wpOps P ops Qx (List.range' k rest.length) a w)
  | [], k, hk, tm, st, K, x, tz, sz, h => by
    refine ⟨tm, st, h, fun p _ => rfl, Grow.refl _, fun σ a w lim hf hg hr hfree hlim hn Q hQ Qx hx => ?_⟩
    simp only [List.length_nil, List.range'_zero, wpOps]
    exact hx _ _ (hQ σ a w (Ext.refl hr) hf rfl rfl)
  | o :: rest, k, hk, tm, st, K, x, tz, sz, h => by
    have hko : ops[k]? = some o := by have := hk 0; simpa using this.symm
    have hrest : ∀ i, rest[i]? = ops[k + 1 + i]? := fun i => by have := hk (i + 1); simp at this; rw [this]; congr 1; omega
    simp only [compRegion] at h
    unfold compCO at h
    cases hc : compOp P g o.op with
    | none =>
      rw [hc] at h
      cases hg : guardT ops.toList o.guard with
      | none => rw [hg] at h; cases h
      | some gd => rw [hg] at h; cases h
    | some c =>
      rw [hc] at h
      cases hg : guardT ops.toList o.guard with
      | none => rw [hg] at h; cases h
      | some gd =>
        rw [hg] at h
        simp only at h
        cases hd : dstOk n o.dst with
        | false => rw [hd] at h; cases h
        | true =>
          rw [hd] at h
          simp only [if_true] at h
          have h1 : gop tm (gpath gd) (fun j => op1 call tm st j c) st (fun v st => putK tm (o.dst.map pathOf) v fun tm => evOps call (compRegion P g n ops.toList rest) tm st K) = .done x tz sz := h
          have hco : (compRegion P g n ops.toList (o :: rest)).map (·.dst) = o.dst.map pathOf :: (compRegion P g n ops.toList rest).map (·.dst) := by
            simp only [compRegion, List.map_cons]; congr 1
            unfold compCO; rw [hc, hg]; simp [hd]
          rw [hco]
          have hstep : ∀ a w Qx, wpOps P ops Qx (List.range' k (o :: rest).length) a w = (if Region.wanted o (yielded ops a.tmps) = true then (o.wp P a w (wpOps P ops Qx (List.range' (k + 1) rest.length)) Qx ∨ (o.asks P a w ∧ LetsOut Qx)) else wpOps P ops Qx (List.range' (k + 1) rest.length) (a.put o.dst undef) w) := fun a w Qx => by
            simp only [List.length_cons, List.range'_succ, wpOps, hko]
          rcases gop_done h1 with ⟨hw, h1⟩ | ⟨hw, h1⟩
          · skip
            obtain ⟨v, st1, h2, h3, h5⟩ := (op_ok hcall hc h1).spec
            rw [putK_eq] at h2
            obtain ⟨tf, sf, hk2, hoff, h6, h8⟩ := seq_region hcall rest (k + 1) hrest h2
            refine ⟨tf, sf, hk2, fun p hp => by rw [hoff p fun o' ho' => hp o' (List.mem_cons_of_mem _ ho'), putT_off _ _ _ (hp _ List.mem_cons_self)], h3.trans h6, fun σ a w lim hf hgl hr hfree hlim hn Q hQ Qx hx => ?_⟩
            rw [hstep, if_pos (wanted_eq (n := n) hf hg hw)]
            refine .inl (Gives.upon (h5 σ a w lim hf.relR hgl hr hfree (Nat.le_trans h6.next hlim) (fun v' w' => wpOps P ops Qx (List.range' (k + 1) rest.length) (a.put o.dst v') w') ?_) (fun v w hv => hv))
            intro σ' v' w' hext hrel
            refine h8 σ' (a.put o.dst v') w' lim (relF_put (RelF.mono hext.le hf) hn hd hrel) (hgl.mono hext.le) hext.rel (hext.free hfree) hlim (by rw [put_size]; exact hn) Q ?_ Qx hx
            intro σ2 a2 w2 e1 e2 e3 e4
            exact hQ σ2 a2 w2 ((hext.weaken h6.low).trans e1) e2 (by rw [e3, put_size]) (by rw [e4, put_defers])
          · rw [putK_eq] at h1
            obtain ⟨tf, sf, hk2, hoff, h6, h8⟩ := seq_region hcall rest (k + 1) hrest h1
            refine ⟨tf, sf, hk2, fun p hp => by rw [hoff p fun o' ho' => hp o' (List.mem_cons_of_mem _ ho'), putT_off _ _ _ (hp _ List.mem_cons_self)], h6, fun σ a w lim hf hgl hr hfree hlim hn Q hQ Qx hx => ?_⟩
            rw [hstep, if_neg (by rw [wanted_eq (n := n) hf hg hw]; simp)]
            refine h8 σ (a.put o.dst undef) w lim (relF_put hf hn hd (relV_undef σ)) hgl hr hfree hlim (by rw [put_size]; exact hn) Q ?_ Qx hx
            intro σ2 a2 w2 e1 e2 e3 e4
            exact hQ σ2 a2 w2 e1 e2 (by rw [e3, put_size]) (by rw [e4, put_defers])
end
end Go.Proofs.YtffaehgicojjmaaDoor.Ev
namespace Go.Proofs.YtffaehgicojjmaaDoor.Ev
set_option linter.unusedVariables false
set_option linter.unusedSimpArgs false

/-! ### regions that draw: what the steps of one order say of all orders -/
/-- the step changes the block, or makes it -/
def Ch (SS : Nat → St) (q id : Nat) : Prop := ((SS q).next ≤ id ∧ id < (SS (q + 1)).next) ∨ (SS (q + 1)).heap.get id ≠ (SS q).heap.get id
/-- one step: either not wanted, or it runs on the part T of the memory -/
inductive AStep (P : Program) (g : Nat) (o : Oper) (gd : Option (Nat × Bool)) (tm : Ev) (st : St) (tm' : Ev) (st' : St) (T : Nat → Prop) : Prop
  | skip : wantN tm gd = some false → tm' = putT tm o.dst undefV → st' = st → (∀ id, ¬ T id) → AStep P g o gd tm st tm' st' T
  | run (v : V) (s s' : St) : wantN tm gd = some true → tm' = putT tm o.dst v → Grow st st' → Spec P g o tm s v s' → s.next = st.next → s'.next = st'.next →
      (∀ id b, s.heap.get id = some b → st.heap.get id = some b) → (∀ id, id < st.next → s.heap.get id = none → st'.heap.get id = st.heap.get id) →
      (∀ id, st.next ≤ id ∨ s.heap.get id ≠ none → st'.heap.get id = s'.heap.get id) → (st'.low ≤ s'.low ∨ st.next ≤ s'.low) → (∀ id, T id ↔ s.heap.get id ≠ none) → AStep P g o gd tm st tm' st' T
theorem AStep.grow {P : Program} {g : Nat} {o : Oper} {gd : Option (Nat × Bool)} {tm tm' : Ev} {st st' : St} {T : Nat → Prop} (h : AStep P g o gd tm st tm' st' T) : Grow st st' := by
  cases h with
  | skip _ _ e _ => subst e; exact Grow.refl _
  | run v s s' _ _ h => exact h

structure Run (P : Program) (g n N : Nat) (opAt : Nat → Oper) (gd : Nat → Option (Nat × Bool)) (TM : Nat → Ev) (SS : Nat → St) (T : Nat → Nat → Prop) (Pre : Nat → Nat → Prop) : Prop where
  step : ∀ p, p < N → AStep P g (opAt p) (gd p) (TM p) (SS p) (TM (p + 1)) (SS (p + 1)) (T p)
  wf : WfS (SS 0)
  ni : ∀ q p, q < p → p < N → ∀ id, ((Ch SS q id ∧ T p id) ∨ ((T q id ∨ Ch SS q id) ∧ Ch SS p id)) → Pre p q
  dst : ∀ q p, q < N → p < N → q ≠ p → ∀ d, (opAt q).dst = some d → (opAt p).dst ≠ some d
  reads : ∀ q p, q < N → p < N → q ≠ p → ∀ d, (opAt q).dst = some d → (Operand.tmp d ∈ (opAt p).op.operands ∨ ∃ w, gd p = some (d, w)) → (q < p ∧ Pre p q) ∨ (p < q ∧ Pre q p)
  dn : ∀ p, p < N → dstOk n (opAt p).dst = true

def Cut (SS : Nat → St) (N : Nat) (S : Nat → Prop) (id k : Nat) : Prop := (∀ j, j < k → Ch SS j id → S j) ∧ (∀ j, k ≤ j → j < N → Ch SS j id → ¬ S j)

structure DInv (N M : Nat) (opAt : Nat → Oper) (TM : Nat → Ev) (SS : Nat → St) (lo : Nat) (σ0 : Map) (w0 : World) (S : Nat → Prop) (σ : Map) (a : Act) (w : World) : Prop where
  tm1 : ∀ t p, p < N → S p → (opAt p).dst = some t → RelV σ (getD' ((TM (p + 1)).get t)) (a.tmps.getD t undef)
  tm0 : ∀ t, (∀ p, p < N → S p → (opAt p).dst ≠ some t) → RelV σ (getD' ((TM 0).get t)) (a.tmps.getD t undef)
  sz : a.tmps.size = M
  le : σ0.le σ
  only : ∀ id, (∀ p, p < N → S p → ¬ ((SS p).next ≤ id ∧ id < (SS (p + 1)).next)) → σ id = σ0 id
  blk : ∀ id k b, k ≤ N → Cut SS N S id k → (SS k).heap.get id = some b → RelB σ id b w
  inj : ∀ id id' k k' b b' x y, k ≤ N → k' ≤ N → Cut SS N S id k → Cut SS N S id' k' → (SS k).heap.get id = some b → (SS k').heap.get id' = some b' → id ≠ id' → (b.own = true ∨ b'.own = true) → σ id = some x → σ id' = some y → x.1 ≠ y.1
  size : w0.heap.size ≤ w.heap.size
  os : w.os = w0.os
  tape : w.tape = w0.tape
  output : w.output = w0.output
  fro : ∀ a, w.frozen? a = w0.frozen? a
  frame : ∀ B, B < w0.heap.size → (∀ id b x, (SS 0).heap.get id = some b → b.own = true → lo ≤ id → σ0 id = some x → x.1 ≠ B) → w.heap[B]? = w0.heap[B]?
  fresh : ∀ id k b x, (SS 0).next ≤ id → k ≤ N → Cut SS N S id k → (SS k).heap.get id = some b → σ id = some x →
    w0.heap.size ≤ x.1 ∨ ∃ j b0 y, (SS 0).heap.get j = some b0 ∧ b0.own = true ∧ lo ≤ j ∧ σ0 j = some y ∧ y.1 = x.1

section
variable {P : Program} {g n N M : Nat} {opAt : Nat → Oper} {gd : Nat → Option (Nat × Bool)} {TM : Nat → Ev} {SS : Nat → St} {T : Nat → Nat → Prop} {Pre : Nat → Nat → Prop} {S : Nat → Prop}

theorem Run.grow (R : Run P g n N opAt gd TM SS T Pre) (i : Nat) : ∀ d, i + d ≤ N → Grow (SS i) (SS (i + d))
  | 0, _ => Grow.refl _
  | d + 1, h => (R.grow i d (by omega)).trans ((R.step (i + d) (by omega)).grow)
theorem Run.grow' (R : Run P g n N opAt gd TM SS T Pre) {i j : Nat} (h : i ≤ j) (hj : j ≤ N) : Grow (SS i) (SS j) := by
  have := R.grow i (j - i) (by omega)
  rwa [show i + (j - i) = j by omega] at this
theorem Run.wf' (R : Run P g n N opAt gd TM SS T Pre) {i : Nat} (h : i ≤ N) : WfS (SS i) := (R.grow' (Nat.zero_le i) h).wf R.wf
theorem cut_eq {id k k' : Nat} (hk : k ≤ N) (hk' : k' ≤ N) (h : Cut SS N S id k) (h' : Cut SS N S id k') : (SS k).heap.get id = (SS k').heap.get id := by
  have aux : ∀ k k', k ≤ k' → k' ≤ N → Cut SS N S id k → Cut SS N S id k' → (SS k).heap.get id = (SS k').heap.get id := by
    intro k k' hle hN h h'
    have go : ∀ d, k + d ≤ k' → (SS k).heap.get id = (SS (k + d)).heap.get id := by
      intro d
      induction d with
      | zero => intro _; rfl
      | succ d ih =>
        intro hd
        rw [ih (by omega)]
        refine Classical.byContradiction fun hne => ?_
        have hc : Ch SS (k + d) id := .inr fun he => hne he.symm
        exact h.2 (k + d) (by omega) (by omega) hc (h'.1 (k + d) (by omega) hc)
    have := go (k' - k) (by omega)
    rwa [show k + (k' - k) = k' by omega] at this
  rcases Nat.le_total k k' with hle | hle
  · exact aux k k' hle hk' h h'
  · exact (aux k' k hle hk h' h).symm
/-- what the step touches or makes -/
def Mine (SS : Nat → St) (T : Nat → Nat → Prop) (p id : Nat) : Prop := T p id ∨ ((SS p).next ≤ id ∧ id < (SS (p + 1)).next)
theorem Run.live (R : Run P g n N opAt gd TM SS T Pre) {p id : Nat} (hp : p < N) (h : T p id) : ∃ b, (SS p).heap.get id = some b := by
  cases R.step p hp with
  | skip _ _ _ hT => exact absurd h (hT id)
  | run v s s' _ _ _ _ _ _ hsub _ _ _ hT =>
    have := (hT id).1 h
    cases hb : s.heap.get id with
    | none => exact absurd hb this
    | some b => exact ⟨b, hsub id b hb⟩
theorem WfS.lt {st : St} (h : WfS st) {id : Nat} {b : Blk} (hb : st.heap.get id = some b) : id < st.next := by
  refine Classical.byContradiction fun hn => ?_
  rw [h id (by omega)] at hb; cases hb
theorem Run.ch_mine (R : Run P g n N opAt gd TM SS T Pre) {p id : Nat} (hp : p < N) (h : Ch SS p id) : Mine SS T p id := by
  rcases h with h | h
  · exact .inr h
  · cases R.step p hp with
    | skip _ _ e _ => rw [e] at h; exact absurd rfl h
    | run v s s' _ _ hg _ e1 e2 hsub hsame _ _ hT =>
      by_cases hid : id < (SS p).next
      · refine .inl ((hT id).2 fun hn => h ?_)
        exact hsame id hid hn
      · by_cases hid' : id < (SS (p + 1)).next
        · exact .inr ⟨by omega, hid'⟩
        · rw [R.wf' (Nat.le_of_lt hp) id (by omega), R.wf' (show p + 1 ≤ N from hp) id (by omega)] at h
          exact absurd rfl h
theorem Run.mine_lt (R : Run P g n N opAt gd TM SS T Pre) {p id : Nat} (hp : p < N) (h : Mine SS T p id) : id < (SS (p + 1)).next := by
  rcases h with h | h
  · obtain ⟨b, hb⟩ := R.live hp h
    exact Nat.lt_of_lt_of_le ((R.wf' (Nat.le_of_lt hp)).lt hb) (R.step p hp).grow.next
  · exact h.2
theorem Run.cut (R : Run P g n N opAt gd TM SS T Pre) {p id : Nat} (hp : p < N) (hS : ¬ S p) (hcl : ∀ q, q < N → S q → ∀ r, Pre q r → S r) (hpre : ∀ r, Pre p r → S r) (h : Mine SS T p id) : Cut SS N S id p := by
  refine ⟨fun j hj hc => ?_, fun j hj hjN hc hSj => ?_⟩
  · rcases h with h | h
    · exact hpre j (R.ni j p hj hp id (.inl ⟨hc, h⟩))
    · have h1 := R.mine_lt (Nat.lt_trans hj hp) (R.ch_mine (Nat.lt_trans hj hp) hc)
      have h2 := (R.grow' (show j + 1 ≤ p from hj) (Nat.le_of_lt hp)).next
      omega
  · by_cases hjp : j = p
    · subst hjp; exact hS hSj
    · have hlt : p < j := by omega
      refine hS (hcl j hjN hSj p (R.ni p j hlt hjN id (.inr ⟨?_, hc⟩)))
      rcases h with h | h
      · exact .inl h
      · exact .inr (.inl h)
theorem cut_mine {p id : Nat} (h : Cut SS N S id p) : Cut SS N (fun q => S q ∨ q = p) id (p + 1) := by
  refine ⟨fun j hj hc => ?_, fun j hj hjN hc hSj => ?_⟩
  · by_cases hjp : j = p
    · exact .inr hjp
    · exact .inl (h.1 j (by omega) hc)
  · rcases hSj with hSj | hSj
    · exact h.2 j (by omega) hjN hc hSj
    · omega
theorem cut_other {p id k : Nat} (hn : ¬ Ch SS p id) (h : Cut SS N (fun q => S q ∨ q = p) id k) : Cut SS N S id k := by
  refine ⟨fun j hj hc => ?_, fun j hj hjN hc hSj => h.2 j hj hjN hc (.inl hSj)⟩
  rcases h.1 j hj hc with h1 | h1
  · exact h1
  · subst h1; exact absurd hc hn

/-- what the frame holds for the step -/
theorem Run.tm_at (R : Run P g n N opAt gd TM SS T Pre) {t : Nat} : ∀ {p : Nat}, p ≤ N → (∀ q, q < p → (opAt q).dst ≠ some t) → getD' ((TM p).get t) = getD' ((TM 0).get t)
  | 0, _, _ => rfl
  | p + 1, hp, h => by
    have ih := R.tm_at (t := t) (p := p) (by omega) fun q hq => h q (by omega)
    rw [← ih]
    have hne := h p (by omega)
    have hput : ∀ v, (putT (TM p) (opAt p).dst v).get t = (TM p).get t := fun v => by
      cases hd : (opAt p).dst with
      | none => rfl
      | some d => rw [putT_get, if_neg (fun he => hne (by rw [hd, he]))]
    cases R.step p (by omega) with
    | skip _ e _ _ => rw [e, hput]
    | run v s s' _ e => rw [e, hput]
theorem Run.tm_from (R : Run P g n N opAt gd TM SS T Pre) {t q : Nat} (hq : q < N) (hd : (opAt q).dst = some t) : ∀ {p : Nat}, q < p → p ≤ N → getD' ((TM p).get t) = getD' ((TM (q + 1)).get t)
  | 0, h, _ => by omega
  | p + 1, h, hp => by
    by_cases hpq : p = q
    · subst hpq; rfl
    · rw [← R.tm_from hq hd (p := p) (by omega) (by omega)]
      have hne : (opAt p).dst ≠ some t := R.dst q p hq (by omega) (fun h => hpq h.symm) t hd
      have hput : ∀ v, (putT (TM p) (opAt p).dst v).get t = (TM p).get t := fun v => by
        cases hd : (opAt p).dst with
        | none => rfl
        | some d => rw [putT_get, if_neg (fun he => hne (by rw [hd, he]))]
      cases R.step p (by omega) with
      | skip _ e _ _ => rw [e, hput]
      | run v s s' _ e => rw [e, hput]
end
end Go.Proofs.YtffaehgicojjmaaDoor.Ev
namespace Go.Proofs.YtffaehgicojjmaaDoor.Ev
set_option linter.unusedVariables false
set_option linter.unusedSimpArgs false
section
variable {P : Program} {g n N M : Nat} {opAt : Nat → Oper} {gd : Nat → Option (Nat × Bool)} {TM : Nat → Ev} {SS : Nat → St} {T : Nat → Nat → Prop} {Pre : Nat → Nat → Prop} {S : Nat → Prop}
  {lo : Nat} {σ0 σ : Map} {w0 w : World} {a : Act}

theorem DInv.reads (I : DInv N M opAt TM SS lo σ0 w0 S σ a w) (R : Run P g n N opAt gd TM SS T Pre) {p : Nat} (hp : p < N) (hS : ¬ S p) (hcl : ∀ q, q < N → S q → ∀ r, Pre q r → S r) (hpre : ∀ r, Pre p r → S r)
    {t : Nat} (ht : Operand.tmp t ∈ (opAt p).op.operands ∨ ∃ w, gd p = some (t, w)) : RelV σ (getD' ((TM p).get t)) (a.tmps.getD t undef) := by
  by_cases hex : ∃ q, q < N ∧ S q ∧ (opAt q).dst = some t
  · obtain ⟨q, hq, hSq, hd⟩ := hex
    have hne : q ≠ p := fun h => hS (h ▸ hSq)
    rcases R.reads q p hq hp hne t hd ht with ⟨h1, h2⟩ | ⟨h1, h2⟩
    · rw [R.tm_from hq hd h1 (Nat.le_of_lt hp)]
      exact I.tm1 t q hq hSq hd
    · exact absurd (hcl q hq hSq p h2) hS
  · rw [R.tm_at (Nat.le_of_lt hp)]
    · exact I.tm0 t fun q hq hSq hd => hex ⟨q, hq, hSq, hd⟩
    · intro q hq hd
      have hqN := Nat.lt_trans hq hp
      rcases R.reads q p hqN hp (by omega) t hd ht with ⟨h1, h2⟩ | ⟨h1, h2⟩
      · exact hex ⟨q, hqN, hpre q h2, hd⟩
      · omega
theorem getD_put_ne {a : Act} {o : Option Nat} {v : Value} {t : Nat} (h : o ≠ some t) : (a.put o v).tmps.getD t undef = a.tmps.getD t undef := by
  cases o with
  | none => rfl
  | some d =>
    simp only [Act.put]
    rw [Array.getD_eq_getD_getElem?, Array.getElem?_setIfInBounds_ne (fun he => h (by rw [he])), ← Array.getD_eq_getD_getElem?]
theorem getD_put_eq {a : Act} {d : Nat} {v : Value} (h : d < a.tmps.size) : (a.put (some d) v).tmps.getD d undef = v := by
  simp only [Act.put]
  rw [Array.getD_eq_getD_getElem?, Array.getElem?_setIfInBounds_self_of_lt h]; rfl
/-- the frame behind a step -/
theorem DInv.put1 (I : DInv N M opAt TM SS lo σ0 w0 S σ a w) (R : Run P g n N opAt gd TM SS T Pre) {p : Nat} (hp : p < N) (hn : n ≤ M) {σ' : Map} (hle : σ.le σ') {v : V} {v' : Value} (htm : TM (p + 1) = putT (TM p) (opAt p).dst v) (hv : RelV σ' v v') :
    ∀ t q, q < N → (S q ∨ q = p) → (opAt q).dst = some t → RelV σ' (getD' ((TM (q + 1)).get t)) ((a.put (opAt p).dst v').tmps.getD t undef) := by
  intro t q hq hSq hd
  by_cases hqp : q = p
  · subst hqp
    rw [htm, hd, putT_get, if_pos rfl]
    have hlt : t < n := by have := R.dn q hq; rw [hd] at this; exact blt_of this
    rw [getD_put_eq (by rw [I.sz]; exact Nat.lt_of_lt_of_le hlt hn)]
    exact hv
  · have hne : (opAt p).dst ≠ some t := R.dst q p hq hp hqp t hd
    rw [getD_put_ne hne]
    rcases hSq with h | h
    · exact (I.tm1 t q hq h hd).mono hle
    · exact absurd h hqp
theorem DInv.put0 (I : DInv N M opAt TM SS lo σ0 w0 S σ a w) (R : Run P g n N opAt gd TM SS T Pre) {p : Nat} (hp : p < N) {σ' : Map} (hle : σ.le σ') {v' : Value} :
    ∀ t, (∀ q, q < N → (S q ∨ q = p) → (opAt q).dst ≠ some t) → RelV σ' (getD' ((TM 0).get t)) ((a.put (opAt p).dst v').tmps.getD t undef) := by
  intro t h
  rw [getD_put_ne (h p hp (.inr rfl))]
  exact (I.tm0 t fun q hq hS => h q hq (.inl hS)).mono hle

theorem DInv.skip (I : DInv N M opAt TM SS lo σ0 w0 S σ a w) (R : Run P g n N opAt gd TM SS T Pre) {p : Nat} (hp : p < N) (hn : n ≤ M)
    (htm : TM (p + 1) = putT (TM p) (opAt p).dst undefV) (hss : SS (p + 1) = SS p) : DInv N M opAt TM SS lo σ0 w0 (fun q => S q ∨ q = p) σ (a.put (opAt p).dst undef) w := by
  have hnc : ∀ id, ¬ Ch SS p id := fun id h => by
    rcases h with h | h
    · rw [hss] at h; omega
    · rw [hss] at h; exact h rfl
  refine ⟨I.put1 R hp hn (Map.le.refl σ) htm (relV_undef σ), I.put0 R hp (Map.le.refl σ), by rw [put_size]; exact I.sz, I.le, fun id h => I.only id fun q hq hS => h q hq (.inl hS), ?_, ?_, I.size, I.os, I.tape, I.output, I.fro, I.frame, ?_⟩
  · intro id k b hk hc hb; exact I.blk id k b hk (cut_other (hnc id) hc) hb
  · intro id id' k k' b b' x y hk hk' hc hc' hb hb' hne ho hx hy
    exact I.inj id id' k k' b b' x y hk hk' (cut_other (hnc id) hc) (cut_other (hnc id') hc') hb hb' hne ho hx hy
  · intro id k b x h1 hk hc hb hx
    exact I.fresh id k b x h1 hk (cut_other (hnc id) hc) hb hx

/-- where the step finds its part of the memory -/
theorem DInv.part (I : DInv N M opAt TM SS lo σ0 w0 S σ a w) (R : Run P g n N opAt gd TM SS T Pre) {p : Nat} (hp : p < N) (hS : ¬ S p) (hcl : ∀ q, q < N → S q → ∀ r, Pre q r → S r) (hpre : ∀ r, Pre p r → S r)
    {s : St} (hsub : ∀ id b, s.heap.get id = some b → (SS p).heap.get id = some b) (hnx : s.next = (SS p).next) (hT : ∀ id, T p id ↔ s.heap.get id ≠ none) : RelH σ s w := by
  have hc : ∀ id b, s.heap.get id = some b → Cut SS N S id p := fun id b hb => R.cut hp hS hcl hpre (.inl ((hT id).2 (by rw [hb]; simp)))
  refine ⟨fun id b hb => I.blk id p b (Nat.le_of_lt hp) (hc id b hb) (hsub id b hb), ?_, fun id b hb => ?_⟩
  · intro id id' b b' x y hb hb' hne ho hx hy
    exact I.inj id id' p p b b' x y (Nat.le_of_lt hp) (Nat.le_of_lt hp) (hc id b hb) (hc id' b' hb') (hsub id b hb) (hsub id' b' hb') hne ho hx hy
  · rw [hnx]; exact (R.wf' (Nat.le_of_lt hp)).lt (hsub id b hb)
theorem DInv.freeAt (I : DInv N M opAt TM SS lo σ0 w0 S σ a w) (R : Run P g n N opAt gd TM SS T Pre) {lim : Nat} (hf : Free σ0 (SS 0).next lim) (hl : (SS N).next ≤ lim) {p : Nat} (hp : p < N) (hS : ¬ S p) : Free σ (SS p).next (SS (p + 1)).next := by
  intro id h1 h2
  rw [I.only id]
  · refine hf id ?_ ?_
    · have := (R.grow' (Nat.zero_le p) (Nat.le_of_lt hp)).next; omega
    · have := (R.grow' (show p + 1 ≤ N from hp) (Nat.le_refl N)).next; omega
  · intro q hq hSq hr
    have hne : q ≠ p := fun h => hS (h ▸ hSq)
    rcases Nat.lt_or_gt_of_ne hne with h | h
    · have := (R.grow' (show q + 1 ≤ p from h) (Nat.le_of_lt hp)).next; omega
    · have := (R.grow' (show p + 1 ≤ q from h) (Nat.le_of_lt hq)).next; omega

/-- a step that ran -/
theorem DInv.ran (I : DInv N M opAt TM SS lo σ0 w0 S σ a w) (R : Run P g n N opAt gd TM SS T Pre) {p : Nat} (hp : p < N) (hn : n ≤ M) (hS : ¬ S p) (hcl : ∀ q, q < N → S q → ∀ r, Pre q r → S r) (hpre : ∀ r, Pre p r → S r)
    (hlo : lo ≤ (SS N).low) {v : V} {s s' : St} (htm : TM (p + 1) = putT (TM p) (opAt p).dst v) (e1 : s.next = (SS p).next) (e2 : s'.next = (SS (p + 1)).next)
    (hsub : ∀ id b, s.heap.get id = some b → (SS p).heap.get id = some b) (hnew : ∀ id, (SS p).next ≤ id ∨ s.heap.get id ≠ none → (SS (p + 1)).heap.get id = s'.heap.get id)
    (hlow : (SS (p + 1)).low ≤ s'.low ∨ (SS p).next ≤ s'.low) (hT : ∀ id, T p id ↔ s.heap.get id ≠ none)
    {σ' : Map} {v' : Value} {w' : World} (E : Ext σ σ' s s' w w' s'.low) (hv : RelV σ' v v') : DInv N M opAt TM SS lo σ0 w0 (fun q => S q ∨ q = p) σ' (a.put (opAt p).dst v') w' := by
  have hpN := Nat.le_of_lt hp
  have hp1 : p + 1 ≤ N := hp
  have hmono := (R.step p hp).grow.next
  have hn0 := (R.grow' (Nat.zero_le p) hpN).next
  have hlo' : ∀ id b, s.heap.get id = some b → s'.low ≤ id → lo ≤ id := fun id b hb hl => by
    rcases hlow with h | h
    · have := (R.grow' hp1 (Nat.le_refl N)).low; omega
    · have := (R.wf' hpN).lt (hsub id b hb); omega
  have hT' : ∀ id b, s.heap.get id = some b → T p id := fun id b hb => (hT id).2 (by rw [hb]; simp)
  have hcT : ∀ id b, s.heap.get id = some b → Cut SS N S id p := fun id b hb => R.cut hp hS hcl hpre (.inl (hT' id b hb))
  -- what lies in the world at a block of the step's part, as it was at the start
  have horig : ∀ j b y, s.heap.get j = some b → b.own = true → s'.low ≤ j → σ j = some y → w0.heap.size ≤ y.1 ∨ ∃ i b0 z, (SS 0).heap.get i = some b0 ∧ b0.own = true ∧ lo ≤ i ∧ σ0 i = some z ∧ z.1 = y.1 := by
    intro j b y hb ho hl hy
    by_cases hj : j < (SS 0).next
    · obtain ⟨b0, h1, h2⟩ := (R.grow' (Nat.zero_le p) hpN).keepOwn j b hj (hsub j b hb)
      refine .inr ⟨j, b0, y, h1, by rw [← h2]; exact ho, hlo' j b hb hl, ?_, rfl⟩
      rw [← I.only j]
      · exact hy
      · intro q hq _ hr
        have := (R.grow' (Nat.zero_le q) (Nat.le_of_lt hq)).next; omega
    · exact I.fresh j p b y (by omega) hpN (hcT j b hb) (hsub j b hb) hy
  have hmineEq : ∀ id, Mine SS T p id → (SS (p + 1)).heap.get id = s'.heap.get id := fun id h => by
    rcases h with h | h
    · exact hnew id (.inr ((hT id).1 h))
    · exact hnew id (.inl h.1)
  have hcut' : ∀ id k b, k ≤ N → Cut SS N (fun q => S q ∨ q = p) id k → (SS k).heap.get id = some b → Mine SS T p id → s'.heap.get id = some b := fun id k b hk hc hb hm => by
    rw [← hmineEq id hm, ← hb]
    exact (cut_eq hk hp1 hc (cut_mine (R.cut hp hS hcl hpre hm))).symm
  have hsame : ∀ id, ¬ Mine SS T p id → σ' id = σ id := fun id h => E.only id fun hr => h (.inr (by rw [e1, e2] at hr; exact hr))
  have holdT : ∀ id, T p id → σ' id = σ id := fun id h => E.only id fun hr => by
    obtain ⟨b, hb⟩ := R.live hp h
    have := (R.wf' hpN).lt hb
    rw [e1] at hr; omega
  have hco : ∀ {id k : Nat}, ¬ Mine SS T p id → Cut SS N (fun q => S q ∨ q = p) id k → Cut SS N S id k := fun hm hc => cut_other (fun h => hm (R.ch_mine hp h)) hc
  refine ⟨I.put1 R hp hn E.le htm hv, I.put0 R hp E.le, by rw [put_size]; exact I.sz, I.le.trans E.le, ?_, ?_, ?_, Nat.le_trans I.size E.size, E.os.trans I.os, E.tape.trans I.tape, E.output.trans I.output, fun a => (E.fro a).trans (I.fro a), ?_, ?_⟩
  · intro id h
    rw [E.only id (by rw [e1, e2]; exact h p hp (.inr rfl))]
    exact I.only id fun q hq hSq => h q hq (.inl hSq)
  · intro id k b hk hc hb
    by_cases hm : Mine SS T p id
    · exact E.rel.blk id b (hcut' id k b hk hc hb hm)
    · have hB := I.blk id k b hk (hco hm hc) hb
      obtain ⟨x, hx⟩ := hB.map
      refine (hB.world hx (E.frame x.1 (hB.lt hx) ?_)).mono E.le
      intro id' b' x' hb' hown _ hx'
      have hne : id' ≠ id := fun h => hm (.inl (h ▸ hT' id' b' hb'))
      exact I.inj id' id p k b' b x' x hpN hk (hcT id' b' hb') (hco hm hc) (hsub id' b' hb') hb hne (.inl hown) hx' hx
  · -- one way round, then the other
    have one : ∀ id id' k k' b b' x y, k ≤ N → k' ≤ N → Cut SS N (fun q => S q ∨ q = p) id k → Cut SS N (fun q => S q ∨ q = p) id' k' → (SS k).heap.get id = some b → (SS k').heap.get id' = some b' → id ≠ id' → (b.own = true ∨ b'.own = true) → σ' id = some x → σ' id' = some y → Mine SS T p id → ¬ Mine SS T p id' → x.1 ≠ y.1 := by
      intro id id' k k' b b' x y hk hk' hc hc' hb hb' hne hown hx hy hm hm'
      rw [hsame id' hm'] at hy
      have hkeep : T p id → ∀ b0, s.heap.get id = some b0 → b.own = b0.own := fun hm b0 hb0 => by
        have h1 : (SS (p + 1)).heap.get id = some b := by rw [hmineEq id (.inl hm)]; exact hcut' id k b hk hc hb (.inl hm)
        obtain ⟨c, h2, h3⟩ := (R.step p hp).grow.keepOwn id b ((R.wf' hpN).lt (hsub id b0 hb0)) h1
        rw [hsub id b0 hb0] at h2; cases h2; exact h3
      rcases hm with hm | hm
      · rw [holdT id hm] at hx
        have : ∃ b0, s.heap.get id = some b0 := by
          cases hs : s.heap.get id with
          | none => exact absurd hs ((hT id).1 hm)
          | some b0 => exact ⟨b0, rfl⟩
        obtain ⟨b0, hb0⟩ := this
        exact I.inj id id' p k' b0 b' x y hpN hk' (hcT id b0 hb0) (hco hm' hc') (hsub id b0 hb0) hb' hne (hown.imp (fun h => (hkeep hm b0 hb0) ▸ h) fun h => h) hx hy
      · have hb1 := hcut' id k b hk hc hb (.inr hm)
        rcases E.fresh id b x (by rw [e1]; exact hm.1) hb1 hx with h | ⟨j, c, z, h1, h2, h3, h4, h5⟩
        · have := (I.blk id' k' b' hk' (hco hm' hc') hb').lt hy; omega
        · have hne' : j ≠ id' := fun h => hm' (.inl (h ▸ hT' j c h1))
          rw [← h5]
          exact I.inj j id' p k' c b' z y hpN hk' (hcT j c h1) (hco hm' hc') (hsub j c h1) hb' hne' (.inl h2) h4 hy
    intro id id' k k' b b' x y hk hk' hc hc' hb hb' hne hown hx hy
    by_cases hm : Mine SS T p id
    · by_cases hm' : Mine SS T p id'
      · exact E.rel.inj id id' b b' x y (hcut' id k b hk hc hb hm) (hcut' id' k' b' hk' hc' hb' hm') hne hown hx hy
      · exact one id id' k k' b b' x y hk hk' hc hc' hb hb' hne hown hx hy hm hm'
    · by_cases hm' : Mine SS T p id'
      · exact (one id' id k' k b' b y x hk' hk hc' hc hb' hb hne.symm hown.symm hy hx hm' hm).symm
      · rw [hsame id hm] at hx
        rw [hsame id' hm'] at hy
        exact I.inj id id' k k' b b' x y hk hk' (hco hm hc) (hco hm' hc') hb hb' hne hown hx hy
  · intro B hB h
    rw [E.frame B (Nat.lt_of_lt_of_le hB I.size) ?_]
    · exact I.frame B hB h
    · intro id b x hb ho hl hx
      rcases horig id b x hb ho hl hx with h1 | ⟨i, b0, z, h1, h2, h3, h4, h5⟩
      · omega
      · rw [← h5]; exact h i b0 z h1 h2 h3 h4
  · intro id k b x hid hk hc hb hx
    by_cases hm : Mine SS T p id
    · rcases hm with hm | hm
      · rw [holdT id hm] at hx
        obtain ⟨b0, hb0⟩ := R.live hp hm
        exact I.fresh id p b0 x hid hpN (R.cut hp hS hcl hpre (.inl hm)) hb0 hx
      · have hb1 := hcut' id k b hk hc hb (.inr hm)
        rcases E.fresh id b x (by rw [e1]; exact hm.1) hb1 hx with h | ⟨j, c, z, h1, h2, h3, h4, h5⟩
        · have := I.size; exact .inl (by omega)
        · rw [← h5]; exact horig j c z h1 h2 h3 h4
    · rw [hsame id hm] at hx
      exact I.fresh id k b x hid hk (hco hm hc) hb hx
end
end Go.Proofs.YtffaehgicojjmaaDoor.Ev
namespace Go.Proofs.YtffaehgicojjmaaDoor.Ev
set_option linter.unusedVariables false
set_option linter.unusedSimpArgs false
section
variable {P : Program} {g n N M : Nat} {opAt : Nat → Oper} {gd : Nat → Option (Nat × Bool)} {TM : Nat → Ev} {SS : Nat → St} {T : Nat → Nat → Prop} {Pre : Nat → Nat → Prop} {S : Nat → Prop}
  {lo : Nat} {σ0 σ : Map} {w0 w : World} {a : Act}
theorem Cut.congr {S' : Nat → Prop} (h : ∀ q, q < N → (S q ↔ S' q)) {id k : Nat} (hk : k ≤ N) (hc : Cut SS N S id k) : Cut SS N S' id k :=
  ⟨fun j hj hch => (h j (by omega)).1 (hc.1 j hj hch), fun j hj hjN hch hS => hc.2 j hj hjN hch ((h j hjN).2 hS)⟩
theorem DInv.congr {S' : Nat → Prop} (h : ∀ q, q < N → (S q ↔ S' q)) (I : DInv N M opAt TM SS lo σ0 w0 S σ a w) : DInv N M opAt TM SS lo σ0 w0 S' σ a w := by
  have h' : ∀ q, q < N → (S' q ↔ S q) := fun q hq => (h q hq).symm
  exact ⟨fun t p hp hS hd => I.tm1 t p hp ((h p hp).2 hS) hd, fun t ht => I.tm0 t fun p hp hS => ht p hp ((h p hp).1 hS), I.sz, I.le, fun id hid => I.only id fun p hp hS => hid p hp ((h p hp).1 hS),
    fun id k b hk hc hb => I.blk id k b hk (hc.congr h' hk) hb, fun id id' k k' b b' x y hk hk' hc hc' => I.inj id id' k k' b b' x y hk hk' (hc.congr h' hk) (hc'.congr h' hk'),
    I.size, I.os, I.tape, I.output, I.fro, I.frame, fun id k b x h1 hk hc => I.fresh id k b x h1 hk (hc.congr h' hk)⟩
theorem wanted_eq' {σ : Map} {tm : Ev} {a : Act} {ops : Array Oper} {o : Oper} {gd : Option (Nat × Bool)} (hf : ∀ d w, gd = some (d, w) → RelV σ (getD' (tm.get d)) (a.tmps.getD d undef)) (hg : guardT ops.toList o.guard = some gd) {b : Bool} (hb : wantN tm gd = some b) : Region.wanted o (yielded ops a.tmps) = b := by
  unfold Region.wanted
  cases ho : o.guard with
  | none => rw [ho] at hg; simp [guardT] at hg; subst hg; cases hb; rfl
  | some jw =>
    obtain ⟨j, w⟩ := jw
    rw [ho] at hg
    simp only [guardT] at hg
    split at hg
    · rename_i oj hj
      obtain ⟨d, hd, rfl⟩ := Option.map_eq_some_iff.1 hg
      rw [← relV_bool (hf d w rfl) w hb]; symm
      have hj' : ops[j]? = some oj := by simpa using hj
      simp only [yielded, hj', Option.bind_some, hd]
      have : a.tmps.getD d undef = (a.tmps[d]?).getD undef := Array.getD_eq_getD_getElem? ..
      rw [this]
      cases ht : a.tmps[d]? with
      | none => rfl
      | some v =>
        cases v with
        | bool b => simp only [Option.getD_some]; cases b <;> cases w <;> rfl
        | _ => rfl
    · cases hg
def left (N : Nat) (listed : Array Bool) : Nat := ((List.range N).filter fun i => !listed.getD i true).length
theorem filter_le {α : Type} {p q : α → Bool} (h : ∀ x, q x = true → p x = true) : ∀ l : List α, (l.filter q).length ≤ (l.filter p).length
  | [] => Nat.le_refl _
  | x :: l => by
    have ih := filter_le h l
    cases hq : q x with
    | true => simp [List.filter_cons, hq, h x hq, ih]
    | false =>
      cases hp : p x with
      | true => simp [List.filter_cons, hq, hp]; omega
      | false => simp [List.filter_cons, hq, hp, ih]
theorem filter_lt {α : Type} {p q : α → Bool} (h : ∀ x, q x = true → p x = true) {y : α} (hp : p y = true) (hq : q y = false) : ∀ l : List α, y ∈ l → (l.filter q).length < (l.filter p).length
  | [], hm => by cases hm
  | x :: l, hm => by
    rcases List.mem_cons.1 hm with rfl | hm
    · have := filter_le h l
      simp [List.filter_cons, hq, hp]; omega
    · have ih := filter_lt h hp hq l hm
      cases hq' : q x with
      | true => simp [List.filter_cons, hq', h x hq']; exact ih
      | false =>
        cases hp' : p x with
        | true => simp [List.filter_cons, hq', hp']; omega
        | false => simp [List.filter_cons, hq', hp']; exact ih

/-- Whatever order is drawn, the region comes to the same. -/
theorem drawn_any (R : Run P g n N opAt gd TM SS T Pre) {ops : Array Oper} {ord : Nat → Nat} (hN : ops.size = N) (hop : ∀ p, p < N → ops[ord p]? = some (opAt p)) (hsurj : ∀ i, i < N → ∃ p, p < N ∧ ord p = i)
    (hinj : ∀ p q, p < N → q < N → ord p = ord q → p = q) (hguard : ∀ p, p < N → guardT ops.toList (opAt p).guard = some (gd p))
    (hback : ∀ p, p < N → ∀ e, e ∈ (opAt p).after → Region.binds .any e = true → e.on < ord p)
    (hpre : ∀ (S : Nat → Prop), (∀ q, q < N → S q → ∀ r, Pre q r → S r) → ∀ p, p < N → (∀ e, e ∈ (opAt p).after → Region.binds .any e = true → ∃ q, q < N ∧ ord q = e.on ∧ S q) → ∀ r, Pre p r → S r)
    (hn : n ≤ M) (hlo : lo ≤ (SS N).low) {lim : Nat} (hfree : Free σ0 (SS 0).next lim) (hlim : (SS N).next ≤ lim) (hg : Globals σ0 g) {D : List Deferred} {Q : Exit → Act → World → Prop}
    (hQ : ∀ σ a w, DInv N M opAt TM SS lo σ0 w0 (fun _ => True) σ a w → a.defers = D → Q .normal a w) :
    ∀ (fuel : Nat) (listed : Array Bool) (σ : Map) (a : Act) (w : World), listed.size = N → left N listed ≤ fuel → (∀ q, q < N → listed.getD (ord q) false = true → ∀ r, Pre q r → listed.getD (ord r) false = true) →
      DInv N M opAt TM SS lo σ0 w0 (fun q => listed.getD (ord q) false = true) σ a w → a.defers = D → wpAny P .any ops Q fuel listed a w := by
  have hord : ∀ p, p < N → ord p < N := fun p hp => by rw [← hN]; exact (Array.getElem?_eq_some_iff.1 (hop p hp)).1
  have hdef : ∀ {listed : Array Bool} {i : Nat}, listed.size = N → i < N → listed.getD i true = listed.getD i false := fun hs hi => by
    rename_i listed i
    rw [Array.getD_eq_getD_getElem?, Array.getD_eq_getD_getElem?, Array.getElem?_eq_getElem (by omega)]; rfl
  have hall : ∀ (listed : Array Bool) (σ : Map) (a : Act) (w : World), listed.size = N → (∀ i, i < N → listed.getD i false = true) → DInv N M opAt TM SS lo σ0 w0 (fun q => listed.getD (ord q) false = true) σ a w → a.defers = D → Q .normal a w := fun listed σ a w hs h I hd =>
    hQ σ a w (I.congr fun q hq => ⟨fun _ => trivial, fun _ => h (ord q) (hord q hq)⟩) hd
  -- nothing is ready only when all is listed
  have hready : ∀ listed : Array Bool, listed.size = N → Region.ready .any ops listed = [] → ∀ i, i < N → listed.getD i false = true := by
    intro listed hs hr i
    induction i using Nat.strongRecOn with
    | ind i ih =>
      intro hi
      refine Classical.byContradiction fun hne => ?_
      obtain ⟨p, hp, rfl⟩ := hsurj i hi
      have hmem : ord p ∈ Region.ready .any ops listed := mem_ready.2 ⟨by rw [hdef hs hi]; exact Bool.eq_false_iff.2 hne, opAt p, hop p hp, fun e he hb => ih e.on (hback p hp e he hb) (Nat.lt_trans (hback p hp e he hb) hi)⟩
      rw [hr] at hmem; cases hmem
  intro fuel
  induction fuel with
  | zero =>
    intro listed σ a w hs hl hcl I hd
    have hfull : ∀ i, i < N → listed.getD i false = true := fun i hi => by
      have h0 : (List.range N).filter (fun i => !listed.getD i true) = [] := List.eq_nil_of_length_eq_zero (Nat.le_zero.1 hl)
      have := List.filter_eq_nil_iff.1 h0 i (List.mem_range.2 hi)
      rw [hdef hs hi] at this
      simpa using this
    refine ⟨?_, hall listed σ a w hs hfull I hd⟩
    refine List.eq_nil_iff_forall_not_mem.2 fun i hm => ?_
    obtain ⟨h1, o, ho, _⟩ := mem_ready.1 hm
    have hi : i < N := by rw [← hN]; exact (Array.getElem?_eq_some_iff.1 ho).1
    rw [hdef hs hi, hfull i hi] at h1; cases h1
  | succ fuel ih =>
    intro listed σ a w hs hl hcl I hd
    refine ⟨fun hr => hall listed σ a w hs (hready listed hs hr) I hd, fun i hi => ?_⟩
    obtain ⟨h1, o, ho, hbind⟩ := mem_ready.1 hi
    have hiN : i < N := by rw [← hN]; exact (Array.getElem?_eq_some_iff.1 ho).1
    obtain ⟨p, hp, rfl⟩ := hsurj i hiN
    have : o = opAt p := by rw [hop p hp] at ho; cases ho; rfl
    subst this
    have hS : ¬ listed.getD (ord p) false = true := by rw [hdef hs hiN] at h1; rw [h1]; simp
    have hprep := hpre (fun q => listed.getD (ord q) false = true) hcl p hp fun e he hb => by
      obtain ⟨q, hq, hqe⟩ := hsurj e.on (Nat.lt_trans (hback p hp e he hb) hiN)
      exact ⟨q, hq, hqe, by show listed.getD (ord q) false = true; rw [hqe]; exact hbind e he hb⟩
    have hset : ∀ q, q < N → ((listed.getD (ord q) false = true ∨ q = p) ↔ (listed.setIfInBounds (ord p) true).getD (ord q) false = true) := fun q hq => by
      by_cases hqp : q = p
      · subst hqp
        refine ⟨fun _ => ?_, fun _ => .inr rfl⟩
        rw [Array.getD_eq_getD_getElem?, Array.getElem?_setIfInBounds_self_of_lt (by omega)]; rfl
      · have hne : ord p ≠ ord q := fun h => hqp (hinj q p hq hp h.symm)
        rw [getD_set_ne false hne]
        exact ⟨fun h => h.resolve_right hqp, .inl⟩
    have hs' : (listed.setIfInBounds (ord p) true).size = N := by simpa using hs
    have hl' : left N (listed.setIfInBounds (ord p) true) ≤ fuel := by
      have : left N (listed.setIfInBounds (ord p) true) < left N listed := by
        refine filter_lt (fun x hx => ?_) (y := ord p) (by simp only [h1]; rfl) ?_ _ (List.mem_range.2 hiN)
        · by_cases hx' : ord p = x
          · subst hx'
            rw [h1]; rfl
          · rw [getD_set_ne true hx'] at hx; exact hx
        · rw [Array.getD_eq_getD_getElem?, Array.getElem?_setIfInBounds_self_of_lt (by omega)]; rfl
      omega
    have hcl' : ∀ q, q < N → (listed.setIfInBounds (ord p) true).getD (ord q) false = true → ∀ r, Pre q r → (listed.setIfInBounds (ord p) true).getD (ord r) false = true := fun q hq hSq r hr => by
      rcases (hset q hq).2 hSq with h | h
      · exact getD_set_true (hcl q hq h r hr)
      · subst h; exact getD_set_true (hprep r hr)
    have hreads : ∀ t, (Operand.tmp t ∈ (opAt p).op.operands ∨ ∃ w, gd p = some (t, w)) → RelV σ (getD' ((TM p).get t)) (a.tmps.getD t undef) := fun t ht => I.reads R hp hS hcl hprep ht
    have hw := fun (b : Bool) (hb : wantN (TM p) (gd p) = some b) => wanted_eq' (tm := TM p) (a := a) (fun d w hdw => hreads d (.inr ⟨w, hdw⟩)) (hguard p hp) hb
    show wpOp P ops Q (ord p) (wpAny P .any ops Q fuel (listed.setIfInBounds (ord p) true)) a w
    unfold wpOp
    simp only [hop p hp]
    cases R.step p hp with
    | skip e0 e1 e2 hT =>
      rw [if_neg (by rw [hw _ e0]; simp)]
      exact ih _ σ _ w hs' hl' hcl' ((I.skip R hp hn e1 e2).congr hset) (by rw [put_defers]; exact hd)
    | run v s s' e0 e1 hgr hspec e2 e3 hsub hsame hnew hlow hT =>
      rw [if_pos (hw _ e0)]
      refine .inl (Gives.upon (hspec.2 σ a w (SS (p + 1)).next (fun t ht => hreads t (.inl ht)) (hg.mono I.le) (I.part R hp hS hcl hprep hsub e2 hT) (by rw [e2]; exact I.freeAt R hfree hlim hp hS) (Nat.le_of_eq e3) (fun v' w' => wpAny P .any ops Q fuel (listed.setIfInBounds (ord p) true) (a.put (opAt p).dst v') w') ?_) (fun v w hv => hv))
      intro σ' v' w' E hv
      exact ih _ σ' _ w' hs' hl' hcl' ((I.ran R hp hn hS hcl hprep hlo e1 e2 e3 hsub hnew hlow hT E hv).congr hset) (by rw [put_defers]; exact hd)
end
end Go.Proofs.YtffaehgicojjmaaDoor.Ev
namespace Go.Proofs.YtffaehgicojjmaaDoor.Ev
set_option linter.unusedVariables false
set_option linter.unusedSimpArgs false

theorem sub'_bit {i m : Nat} : sub' (2 ^ i) m = true → Nat.testBit m i = true := by
  intro h
  have h1 : Nat.land (2 ^ i) m = 2 ^ i := Nat.eq_of_beq_eq_true h
  have h2 : Nat.testBit (2 ^ i &&& m) i = Nat.testBit (2 ^ i) i := congrArg (Nat.testBit · i) h1
  rw [Nat.testBit_and, Nat.testBit_two_pow_self] at h2
  simpa using h2
theorem sub'_of {a m i : Nat} (h : sub' a m = true) (hi : Nat.testBit a i = true) : Nat.testBit m i = true := by
  have h1 : Nat.land a m = a := Nat.eq_of_beq_eq_true h
  have h2 : Nat.testBit (a &&& m) i = Nat.testBit a i := congrArg (Nat.testBit · i) h1
  rw [Nat.testBit_and, hi] at h2
  simpa using h2
theorem lor_left {a b i : Nat} (h : Nat.testBit a i = true) : Nat.testBit (Nat.lor a b) i = true := by
  show Nat.testBit (a ||| b) i = true
  rw [Nat.testBit_or, h]; rfl
theorem lor_bit {a i : Nat} : Nat.testBit (Nat.lor a (2 ^ i)) i = true := by
  show Nat.testBit (a ||| 2 ^ i) i = true
  rw [Nat.testBit_or, Nat.testBit_two_pow_self]; simp
theorem and'_true {a b : Bool} (h : and' a b = true) : a = true ∧ b = true := by cases a <;> cases b <;> first | exact ⟨rfl, rfl⟩ | cases h
theorem or'_true {a b : Bool} (h : or' a b = true) : a = true ∨ b = true := by cases a <;> cases b <;> first | exact .inl rfl | exact .inr rfl | cases h
theorem clear_of {pre id : Nat} : ∀ {l : List (Nat × Nat)}, clear pre id l = true → ∀ i, (2 ^ i, id) ∈ l → Nat.testBit pre i = true
  | [], _, i, hm => by cases hm
  | p :: l, h, i, hm => by
    have h' : iteB (Nat.beq p.2 id) (and' (sub' p.1 pre) (clear pre id l)) (clear pre id l) = true := h
    rw [iteB_eq] at h'
    split at h'
    · obtain ⟨h1, h2⟩ := and'_true h'
      rcases List.mem_cons.1 hm with rfl | hm
      · exact sub'_bit h1
      · exact clear_of h2 i hm
    · rename_i hne
      rcases List.mem_cons.1 hm with rfl | hm
      · exact absurd (Nat.beq_refl id) hne
      · exact clear_of h' i hm

/-! ### the steps of the evaluator's order -/
inductive StepOk (P : Program) (g n0 : Nat) (o : Oper) (gd : Option (Nat × Bool)) (bit pre : Nat) (tm : Ev) (st : St) (mk : Mk) (tm' : Ev) (st' : St) (mk' : Mk) (T : Nat → Prop) : Prop
  | skip : wantN tm gd = some false → tm' = putT tm o.dst undefV → st' = st → mk' = mk → (∀ id, ¬ T id) → StepOk P g n0 o gd bit pre tm st mk tm' st' mk' T
  | pure (v : V) : wantN tm gd = some true → PSpec P g o tm v → tm' = putT tm o.dst v → st' = st → mk' = mk → (∀ id, ¬ T id) → StepOk P g n0 o gd bit pre tm st mk tm' st' mk' T
  | new (nb : Blk) (v : V) : wantN tm gd = some true → ASpec P g o tm st.next nb v → tm' = putT tm o.dst v → st' = newBlk st nb → mk' = ⟨Nat.lor mk.al bit, mk.lm, mk.sm, mk.hv, mk.hw, mk.ll, mk.ss⟩ → (∀ id, ¬ T id) → StepOk P g n0 o gd bit pre tm st mk tm' st' mk' T
  | load (id : Nat) (b : Blk) (v : V) : wantN tm gd = some true → st.heap.get id = some b → LSpec P g o tm id b v → okL mk n0 pre id = true → tm' = putT tm o.dst v → st' = st →
      mk' = ⟨mk.al, Nat.lor mk.lm bit, mk.sm, mk.hv, mk.hw, (bit, id) :: mk.ll, mk.ss⟩ → (∀ i, T i ↔ i = id) → StepOk P g n0 o gd bit pre tm st mk tm' st' mk' T
  | store (id : Nat) (b b' : Blk) : wantN tm gd = some true → st.heap.get id = some b → SSpec P g o tm id b b' → okS mk n0 pre id = true → tm' = putT tm o.dst undefV → st' = putBlk st id (some b') →
      mk' = ⟨mk.al, mk.lm, Nat.lor mk.sm bit, mk.hv, mk.hw, mk.ll, (bit, id) :: mk.ss⟩ → (∀ i, T i ↔ i = id) → StepOk P g n0 o gd bit pre tm st mk tm' st' mk' T
  | wrote (v : V) (s1 : St) : wantN tm gd = some true → okH mk pre = true → Spec P g o tm (setLow st st.next) v s1 → tm' = putT tm o.dst v → s1.low < st.next → okW mk pre = true → st' = ⟨s1.heap, s1.next, min st.low s1.low⟩ →
      mk' = ⟨Nat.lor mk.al bit, mk.lm, mk.sm, Nat.lor mk.hv bit, Nat.lor mk.hw bit, mk.ll, mk.ss⟩ → (∀ i, T i ↔ st.heap.get i ≠ none) → StepOk P g n0 o gd bit pre tm st mk tm' st' mk' T
  | touch (v : V) (ids : List Nat) (s s1 : St) : wantN tm gd = some true → okT mk n0 pre ids = true → Spec P g o tm s v s1 → tm' = putT tm o.dst v → s.next = st.next → s1.next = st'.next → st'.low = s1.low → st'.low ≤ st.low → Grow st st' →
      (∀ id, s.heap.get id = if id ∈ ids then st.heap.get id else none) → (∀ id, st'.heap.get id = if id ∈ ids ∨ (st.next ≤ id ∧ id < s1.next) then s1.heap.get id else st.heap.get id) →
      mk' = ⟨Nat.lor mk.al bit, mk.lm, Nat.lor mk.sm bit, mk.hv, mk.hw, mk.ll, ids.map (fun id => (bit, id)) ++ mk.ss⟩ → (∀ i, T i ↔ s.heap.get i ≠ none) → StepOk P g n0 o gd bit pre tm st mk tm' st' mk' T
  | heavy (v : V) (s1 : St) : wantN tm gd = some true → okH mk pre = true → Spec P g o tm (setLow st st.next) v s1 → tm' = putT tm o.dst v → st.next ≤ s1.low → st' = ⟨s1.heap, s1.next, st.low⟩ →
      mk' = ⟨Nat.lor mk.al bit, mk.lm, mk.sm, Nat.lor mk.hv bit, mk.hw, mk.ll, mk.ss⟩ → (∀ i, T i ↔ st.heap.get i ≠ none) → StepOk P g n0 o gd bit pre tm st mk tm' st' mk' T

theorem okT_mem {mk : Mk} {n0 pre : Nat} : ∀ {l : List Nat}, okT mk n0 pre l = true → ∀ id, id ∈ l → okS mk n0 pre id = true
  | [], _, id, h => by cases h
  | i :: l, h, id, hm => by
    obtain ⟨h1, h2⟩ := and'_true (show and' (okS mk n0 pre i) (okT mk n0 pre l) = true from h)
    rcases List.mem_cons.1 hm with rfl | hm
    · exact h1
    · exact okT_mem h2 id hm
theorem setLow_eq (st : St) (l : Nat) : setLow st l = ⟨st.heap, st.next, l⟩ := rfl
theorem grow_low {st s1 st' : St} (h : Grow (setLow st st.next) s1) (e : st' = ⟨s1.heap, s1.next, min st.low s1.low⟩ ∨ (st.next ≤ s1.low ∧ st' = ⟨s1.heap, s1.next, st.low⟩)) : Grow st st' := by
  have hh : st'.heap = s1.heap ∧ st'.next = s1.next ∧ st'.low ≤ st.low ∧ (∀ id, id < st.next → id < st'.low → id < s1.low) := by
    rcases e with rfl | ⟨h1, rfl⟩
    · exact ⟨rfl, rfl, Nat.min_le_left _ _, fun id _ h => Nat.lt_of_lt_of_le h (Nat.min_le_right _ _)⟩
    · exact ⟨rfl, rfl, Nat.le_refl _, fun id h _ => Nat.lt_of_lt_of_le h h1⟩
  obtain ⟨e1, e2, e3, e4⟩ := hh
  refine ⟨by rw [e2]; exact h.next, e3, fun id h1 h2 => by rw [e1]; exact h.old id h1 (e4 id h1 h2), fun id h1 h2 => by rw [e1]; exact h.gone id h1 h2, fun id b h1 h2 => h.keepOwn id b h1 (by rw [← e1]; exact h2), fun hw id b h1 h2 => h.newOwn hw id b h1 (by rw [← e1]; exact h2), fun hw id h1 => by rw [e1]; exact h.wf hw id (by rw [← e2]; exact h1)⟩
noncomputable def oneBlk (st : St) (id : Nat) (b : Blk) : St := ⟨PM.set (id + 1) .leaf id (some b), st.next, st.low⟩
theorem oneBlk_get (st : St) (id : Nat) (b : Blk) (i : Nat) : (oneBlk st id b).heap.get i = if i = id then some b else none := by
  show (PM.set (id + 1) .leaf id (some b)).get i = _
  rw [PM.get_set _ _ _ _ _ (by omega)]; simp
theorem StepOk.grow {P : Program} {g n0 : Nat} {o : Oper} {gd : Option (Nat × Bool)} {bit pre : Nat} {tm tm' : Ev} {st st' : St} {mk mk' : Mk} {T : Nat → Prop} (h : StepOk P g n0 o gd bit pre tm st mk tm' st' mk' T) : Grow st st' := by
  cases h with
  | skip h1 h2 h3 h4 h5 => subst h3; exact Grow.refl _
  | pure v h1 h2 h3 h4 h5 h6 => subst h4; exact Grow.refl _
  | new nb v h1 h2 h3 h4 h5 h6 => subst h4; exact grow_new st h2.1
  | load id b v h1 h2 h3 h4 h5 h6 h7 h8 => subst h6; exact Grow.refl _
  | store id b b' h1 h2 h3 h4 h5 h6 h7 h8 => subst h6; exact grow_put h2 (by rw [h3.1, h3.2.1])
  | wrote v s1 h1 h2 h3 h4 h5 h6 h7 h8 h9 => exact grow_low h3.1 (.inl h7)
  | touch v ids s s1 h1 h2 h3 h4 h5 h6 h7 h8 h9 hA hB hC hD => exact h9
  | heavy v s1 h1 h2 h3 h4 h5 h6 h7 h8 => exact grow_low h3.1 (.inr ⟨h5, h6⟩)
theorem StepOk.abs {P : Program} {g n0 : Nat} {o : Oper} {gd : Option (Nat × Bool)} {bit pre : Nat} {tm tm' : Ev} {st st' : St} {mk mk' : Mk} {T : Nat → Prop} (hw : WfS st) (h : StepOk P g n0 o gd bit pre tm st mk tm' st' mk' T) : AStep P g o gd tm st tm' st' T := by
  have hgrow := h.grow
  cases h with
  | skip h1 h2 h3 h4 h5 => exact .skip h1 h2 h3 h5
  | pure v h1 h2 h3 h4 h5 h6 =>
    subst h4
    refine .run v ⟨.leaf, st'.next, st'.low⟩ ⟨.leaf, st'.next, st'.low⟩ h1 h3 (Grow.refl _) (h2.spec _) rfl rfl (fun id b hb => ?_) (fun _ _ _ => rfl) (fun id hid => ?_) (.inl (Nat.le_refl _)) (fun id => ⟨fun h => absurd h (h6 id), fun h => absurd rfl h⟩)
    · simp at hb
    · rcases hid with hid | hid
      · rw [hw id hid]; rfl
      · exact absurd rfl hid
  | new nb v h1 h2 h3 h4 h5 h6 =>
    subst h4
    refine .run v ⟨.leaf, st.next, st.low⟩ (newBlk ⟨.leaf, st.next, st.low⟩ nb) h1 h3 hgrow (ASpec.spec ⟨.leaf, st.next, st.low⟩ h2) rfl rfl (fun id b hb => ?_) (fun id hid _ => ?_) (fun id hid => ?_) (.inl (Nat.le_refl _)) (fun id => ⟨fun h => absurd h (h6 id), fun h => absurd rfl h⟩)
    · simp at hb
    · rw [newBlk_get, if_neg (by omega)]
    · rcases hid with hid | hid
      · rw [newBlk_get, newBlk_get, hw id hid]; rfl
      · exact absurd rfl hid
  | load id b v h1 h2 h3 h4 h5 h6 h7 h8 =>
    subst h6
    have hone : (oneBlk st' id b).heap.get id = some b := by rw [oneBlk_get, if_pos rfl]
    refine .run v (oneBlk st' id b) (oneBlk st' id b) h1 h5 (Grow.refl _) (h3.spec _ hone) rfl rfl (fun i c hc => ?_) (fun _ _ _ => rfl) (fun i hi => ?_) (.inl (Nat.le_refl _)) (fun i => ?_)
    · rw [oneBlk_get] at hc
      by_cases hi : i = id
      · subst hi; rw [if_pos rfl] at hc; cases hc; exact h2
      · rw [if_neg hi] at hc; cases hc
    · rw [oneBlk_get] at hi ⊢
      by_cases hii : i = id
      · subst hii; rw [if_pos rfl]; exact h2
      · rw [if_neg hii] at hi ⊢
        rcases hi with hi | hi
        · exact hw i hi
        · exact absurd rfl hi
    · rw [h8, oneBlk_get]
      by_cases hi : i = id <;> simp [hi]
  | store id b b' h1 h2 h3 h4 h5 h6 h7 h8 =>
    subst h6
    have hone : (oneBlk st id b).heap.get id = some b := by rw [oneBlk_get, if_pos rfl]
    refine .run undefV (oneBlk st id b) (putBlk (oneBlk st id b) id (some b')) h1 h5 hgrow (h3.spec _ hone) rfl rfl (fun i c hc => ?_) (fun i _ hn => ?_) (fun i hi => ?_) (.inl (Nat.le_refl _)) (fun i => ?_)
    · rw [oneBlk_get] at hc
      by_cases hi : i = id
      · subst hi; rw [if_pos rfl] at hc; cases hc; exact h2
      · rw [if_neg hi] at hc; cases hc
    · rw [oneBlk_get] at hn
      by_cases hi : i = id
      · rw [if_pos hi] at hn; cases hn
      · rw [putBlk_get, if_neg hi]
    · rw [putBlk_get, putBlk_get]
      rw [oneBlk_get] at hi ⊢
      by_cases hii : i = id
      · rw [if_pos hii, if_pos hii]
      · rw [if_neg hii] at hi
        rw [if_neg hii, if_neg hii, if_neg hii]
        rcases hi with hi | hi
        · exact hw i hi
        · exact absurd rfl hi
    · rw [h8, oneBlk_get]
      by_cases hi : i = id <;> simp [hi]
  | wrote v s1 h1 h2 h3 h4 h5 h6 h7 h8 h9 =>
    subst h7
    exact .run v (setLow st st.next) s1 h1 h4 hgrow h3 rfl rfl (fun _ _ h => h) (fun id hid hn => (h3.1.gone id hid hn).trans (show none = st.heap.get id from hn.symm)) (fun _ _ => rfl) (.inl (Nat.min_le_right _ _)) h9
  | touch v ids s s1 h1 h2 h3 h4 h5 h6 h7 h8 h9 hA hB hC hD =>
    have hws : WfS s := fun id hid => by
      rw [hA]; split
      · exact hw id (by rw [← h5]; exact hid)
      · rfl
    refine .run v s s1 h1 h4 h9 h3 h5 h6 (fun id b hb => ?_) (fun id hid hn => ?_) (fun id hid => ?_) (.inl (Nat.le_of_eq h7)) hD
    · rw [hA] at hb; split at hb
      · exact hb
      · cases hb
    · rw [hB]; split
      · rename_i hc
        rcases hc with hc | hc
        · rw [hA, if_pos hc] at hn
          rw [hn]; exact h3.1.gone id (by rw [h5]; exact hid) (by rw [hA, if_pos hc]; exact hn)
        · omega
      · rfl
    · rw [hB]; split
      · rfl
      · rename_i hc
        rcases hid with hid | hid
        · rw [hw id hid]
          refine (h3.1.wf hws id ?_).symm
          refine Classical.byContradiction fun hh => hc (.inr ⟨hid, by omega⟩)
        · rw [hA] at hid; split at hid
          · rename_i hm; exact absurd (.inl hm) hc
          · exact absurd rfl hid
  | heavy v s1 h1 h2 h3 h4 h5 h6 h7 h8 =>
    subst h6
    exact .run v (setLow st st.next) s1 h1 h4 hgrow h3 rfl rfl (fun _ _ h => h) (fun id hid hn => (h3.1.gone id hid hn).trans (show none = st.heap.get id from hn.symm)) (fun _ _ => rfl) (.inr h5) h8

/-! ### the marks say what may not be turned round -/
structure Seen (SS : Nat → St) (T : Nat → Nat → Prop) (ord : Nat → Nat) (p : Nat) (mk : Mk) : Prop where
  ch : ∀ q, q < p → ∀ id, Ch SS q id → ((SS q).next ≤ id ∧ mk.al.testBit (ord q) = true) ∨ (mk.sm.testBit (ord q) = true ∧ (2 ^ ord q, id) ∈ mk.ss) ∨ (mk.hw.testBit (ord q) = true ∧ mk.hv.testBit (ord q) = true)
  tc : ∀ q, q < p → ∀ id, T q id → (mk.sm.testBit (ord q) = true ∧ (2 ^ ord q, id) ∈ mk.ss) ∨ (mk.lm.testBit (ord q) = true ∧ (2 ^ ord q, id) ∈ mk.ll) ∨ mk.hv.testBit (ord q) = true
section
variable {P : Program} {g n N n0 : Nat} {opAt : Nat → Oper} {gd : Nat → Option (Nat × Bool)} {TM : Nat → Ev} {SS : Nat → St} {MK : Nat → Mk} {T : Nat → Nat → Prop} {ord pre : Nat → Nat}
theorem Seen.step {p : Nat} {o : Oper} {gd : Option (Nat × Bool)} {pr : Nat} {tm tm' : Ev} (hw : WfS (SS p)) (hI : Seen SS T ord p (MK p)) (h : StepOk P g n0 o gd (2 ^ ord p) pr tm (SS p) (MK p) tm' (SS (p + 1)) (MK (p + 1)) (T p)) : Seen SS T ord (p + 1) (MK (p + 1)) := by
  have hgrow := h.grow
  -- what was seen stays seen
  have keep : (∀ i, (MK p).al.testBit i = true → (MK (p + 1)).al.testBit i = true) ∧ (∀ i, (MK p).lm.testBit i = true → (MK (p + 1)).lm.testBit i = true) ∧ (∀ i, (MK p).sm.testBit i = true → (MK (p + 1)).sm.testBit i = true) ∧
      (∀ i, (MK p).hv.testBit i = true → (MK (p + 1)).hv.testBit i = true) ∧ (∀ i, (MK p).hw.testBit i = true → (MK (p + 1)).hw.testBit i = true) ∧ (∀ x, x ∈ (MK p).ll → x ∈ (MK (p + 1)).ll) ∧ (∀ x, x ∈ (MK p).ss → x ∈ (MK (p + 1)).ss) := by
    cases h with
    | skip h1 h2 h3 h4 h5 => rw [h4]; exact ⟨fun _ h => h, fun _ h => h, fun _ h => h, fun _ h => h, fun _ h => h, fun _ h => h, fun _ h => h⟩
    | pure v h1 h2 h3 h4 h5 h6 => rw [h5]; exact ⟨fun _ h => h, fun _ h => h, fun _ h => h, fun _ h => h, fun _ h => h, fun _ h => h, fun _ h => h⟩
    | new nb v h1 h2 h3 h4 h5 h6 => rw [h5]; exact ⟨fun _ h => lor_left h, fun _ h => h, fun _ h => h, fun _ h => h, fun _ h => h, fun _ h => h, fun _ h => h⟩
    | load id b v h1 h2 h3 h4 h5 h6 h7 h8 => rw [h7]; exact ⟨fun _ h => h, fun _ h => lor_left h, fun _ h => h, fun _ h => h, fun _ h => h, fun _ h => .tail _ h, fun _ h => h⟩
    | store id b b' h1 h2 h3 h4 h5 h6 h7 h8 => rw [h7]; exact ⟨fun _ h => h, fun _ h => h, fun _ h => lor_left h, fun _ h => h, fun _ h => h, fun _ h => h, fun _ h => .tail _ h⟩
    | wrote v s1 h1 h2 h3 h4 h5 h6 h7 h8 h9 => rw [h8]; exact ⟨fun _ h => lor_left h, fun _ h => h, fun _ h => h, fun _ h => lor_left h, fun _ h => lor_left h, fun _ h => h, fun _ h => h⟩
    | touch v ids s s1 h1 h2 h3 h4 h5 h6 h7 h8 h9 hA hB hC hD => rw [hC]; exact ⟨fun _ h => lor_left h, fun _ h => h, fun _ h => lor_left h, fun _ h => h, fun _ h => h, fun _ h => h, fun _ h => List.mem_append_right _ h⟩
    | heavy v s1 h1 h2 h3 h4 h5 h6 h7 h8 => rw [h7]; exact ⟨fun _ h => lor_left h, fun _ h => h, fun _ h => h, fun _ h => lor_left h, fun _ h => h, fun _ h => h, fun _ h => h⟩
  obtain ⟨k1, k2, k3, k4, k5, k6, k7⟩ := keep
  -- a block that is changed and was there
  have hout : ∀ id, (SS (p + 1)).next ≤ id → (SS (p + 1)).heap.get id = (SS p).heap.get id := fun id hid => by
    rw [hw id (Nat.le_trans hgrow.next hid), hgrow.wf hw id hid]
  refine ⟨fun q hq id hc => ?_, fun q hq id ht => ?_⟩
  · by_cases hqp : q = p
    · subst hqp
      cases h with
      | skip h1 h2 h3 h4 h5 => rcases hc with hc | hc <;> rw [h3] at hc <;> first | omega | exact absurd rfl hc
      | pure v h1 h2 h3 h4 h5 h6 => rcases hc with hc | hc <;> rw [h4] at hc <;> first | omega | exact absurd rfl hc
      | new nb v h1 h2 h3 h4 h5 h6 =>
        refine .inl ⟨?_, by rw [h5]; exact lor_bit⟩
        rcases hc with hc | hc
        · exact hc.1
        · rw [h4, newBlk_get] at hc
          by_cases hid : id = (SS q).next
          · omega
          · rw [if_neg hid] at hc; exact absurd rfl hc
      | load i b v h1 h2 h3 h4 h5 h6 h7 h8 => rcases hc with hc | hc <;> rw [h6] at hc <;> first | omega | exact absurd rfl hc
      | store i b b' h1 h2 h3 h4 h5 h6 h7 h8 =>
        refine .inr (.inl ⟨by rw [h7]; exact lor_bit, ?_⟩)
        have : id = i := by
          rcases hc with hc | hc
          · rw [h6] at hc; exact absurd hc.2 (by show ¬ id < (SS q).next; omega)
          · rw [h6, putBlk_get] at hc
            by_cases hid : id = i
            · exact hid
            · rw [if_neg hid] at hc; exact absurd rfl hc
        rw [h7, this]; exact .head _
      | wrote v s1 h1 h2 h3 h4 h5 h6 h7 h8 h9 => exact .inr (.inr ⟨by rw [h8]; exact lor_bit, by rw [h8]; exact lor_bit⟩)
      | touch v ids s s1 h1 h2 h3 h4 h5 h6 h7 h8 h9 hA hB hC hD =>
        have hmem : id ∈ ids → (2 ^ ord q, id) ∈ (MK (q + 1)).ss := fun hm => by rw [hC]; exact List.mem_append_left _ (List.mem_map.2 ⟨id, hm, rfl⟩)
        have hal : (MK (q + 1)).al.testBit (ord q) = true := by rw [hC]; exact lor_bit
        have hsm : (MK (q + 1)).sm.testBit (ord q) = true := by rw [hC]; exact lor_bit
        rcases hc with hc | hc
        · exact .inl ⟨hc.1, hal⟩
        · rw [hB] at hc; split at hc
          · rename_i hh
            rcases hh with hh | hh
            · exact .inr (.inl ⟨hsm, hmem hh⟩)
            · exact .inl ⟨hh.1, hal⟩
          · exact absurd rfl hc
      | heavy v s1 h1 h2 h3 h4 h5 h6 h7 h8 =>
        refine .inl ⟨?_, by rw [h7]; exact lor_bit⟩
        rcases hc with hc | hc
        · exact hc.1
        · refine Classical.byContradiction fun hn => hc ?_
          rw [h6]
          exact h3.1.old id (by show id < (SS q).next; omega) (by omega)
    · rcases hI.ch q (by omega) id hc with ⟨a, b⟩ | ⟨a, b⟩ | ⟨a, b⟩
      · exact .inl ⟨a, k1 _ b⟩
      · exact .inr (.inl ⟨k3 _ a, k7 _ b⟩)
      · exact .inr (.inr ⟨k5 _ a, k4 _ b⟩)
  · by_cases hqp : q = p
    · subst hqp
      cases h with
      | skip h1 h2 h3 h4 h5 => exact absurd ht (h5 id)
      | pure v h1 h2 h3 h4 h5 h6 => exact absurd ht (h6 id)
      | new nb v h1 h2 h3 h4 h5 h6 => exact absurd ht (h6 id)
      | load i b v h1 h2 h3 h4 h5 h6 h7 h8 => exact .inr (.inl ⟨by rw [h7]; exact lor_bit, by rw [h7, (h8 id).1 ht]; exact .head _⟩)
      | store i b b' h1 h2 h3 h4 h5 h6 h7 h8 => exact .inl ⟨by rw [h7]; exact lor_bit, by rw [h7, (h8 id).1 ht]; exact .head _⟩
      | wrote v s1 h1 h2 h3 h4 h5 h6 h7 h8 h9 => exact .inr (.inr (by rw [h8]; exact lor_bit))
      | touch v ids s s1 h1 h2 h3 h4 h5 h6 h7 h8 h9 hA hB hC hD =>
        have := (hD id).1 ht
        rw [hA] at this; split at this
        · rename_i hm
          exact .inl ⟨by rw [hC]; exact lor_bit, by rw [hC]; exact List.mem_append_left _ (List.mem_map.2 ⟨id, hm, rfl⟩)⟩
        · exact absurd rfl this
      | heavy v s1 h1 h2 h3 h4 h5 h6 h7 h8 => exact .inr (.inr (by rw [h7]; exact lor_bit))
    · rcases hI.tc q (by omega) id ht with ⟨a, b⟩ | ⟨a, b⟩ | b
      · exact .inl ⟨k3 _ a, k7 _ b⟩
      · exact .inr (.inl ⟨k2 _ a, k6 _ b⟩)
      · exact .inr (.inr (k4 _ b))
theorem okL_cases {mk : Mk} {n0 pre id : Nat} (h : okL mk n0 pre id = true) : sub' mk.hw pre = true ∧ (sub' mk.al pre = true ∨ id < n0) ∧ (sub' mk.sm pre = true ∨ clear pre id mk.ss = true) := by
  obtain ⟨h1, h2⟩ := and'_true h
  obtain ⟨h3, h4⟩ := and'_true h2
  exact ⟨h1, (or'_true h3).imp (fun h => h) blt_of, or'_true h4⟩
theorem okS_cases {mk : Mk} {n0 pre id : Nat} (h : okS mk n0 pre id = true) : sub' mk.hv pre = true ∧ (sub' mk.al pre = true ∨ id < n0) ∧ (sub' mk.sm pre = true ∨ clear pre id mk.ss = true) ∧ (sub' mk.lm pre = true ∨ clear pre id mk.ll = true) := by
  obtain ⟨h1, h2⟩ := and'_true h
  obtain ⟨h3, h4⟩ := and'_true h2
  obtain ⟨h5, h6⟩ := and'_true h4
  exact ⟨h1, (or'_true h3).imp (fun h => h) blt_of, or'_true h5, or'_true h6⟩
theorem okH_cases {mk : Mk} {pre : Nat} (h : okH mk pre = true) : sub' mk.hw pre = true ∧ sub' mk.sm pre = true ∧ sub' mk.al pre = true := by
  obtain ⟨h1, h2⟩ := and'_true h
  obtain ⟨h3, h4⟩ := and'_true h2
  exact ⟨h1, h3, h4⟩
/-- the steps of the evaluator, as `Run` wants them -/
theorem run_of (hn0 : (SS 0).next = n0) (hw : WfS (SS 0)) (hmk : MK 0 = ⟨0, 0, 0, 0, 0, [], []⟩)
    (hstep : ∀ p, p < N → StepOk P g n0 (opAt p) (gd p) (2 ^ ord p) (pre p) (TM p) (SS p) (MK p) (TM (p + 1)) (SS (p + 1)) (MK (p + 1)) (T p))
    (hdst : ∀ q p, q < N → p < N → q ≠ p → ∀ d, (opAt q).dst = some d → (opAt p).dst ≠ some d)
    (hreads : ∀ q p, q < N → p < N → q ≠ p → ∀ d, (opAt q).dst = some d → (Operand.tmp d ∈ (opAt p).op.operands ∨ ∃ w, gd p = some (d, w)) → (q < p ∧ (pre p).testBit (ord q) = true) ∨ (p < q ∧ (pre q).testBit (ord p) = true))
    (hdn : ∀ p, p < N → dstOk n (opAt p).dst = true) : Run P g n N opAt gd TM SS T (fun p q => (pre p).testBit (ord q) = true) := by
  have hgrow : ∀ p, p ≤ N → Grow (SS 0) (SS p) := by
    intro p
    induction p with
    | zero => intro _; exact Grow.refl _
    | succ p ih => intro hp; exact (ih (by omega)).trans (hstep p (by omega)).grow
  have hwf : ∀ p, p ≤ N → WfS (SS p) := fun p hp => (hgrow p hp).wf hw
  have R0 : Run P g n N opAt gd TM SS T (fun _ _ => True) := ⟨fun p hp => (hstep p hp).abs (hwf p (Nat.le_of_lt hp)), hw, fun _ _ _ _ _ _ => trivial, hdst, fun q p hq hp hne d _ _ => by
    rcases Nat.lt_or_gt_of_ne hne with h | h
    · exact .inl ⟨h, trivial⟩
    · exact .inr ⟨h, trivial⟩, hdn⟩
  have hseen : ∀ p, p ≤ N → Seen SS T ord p (MK p) := by
    intro p
    induction p with
    | zero => intro _; exact ⟨fun q hq => absurd hq (by omega), fun q hq => absurd hq (by omega)⟩
    | succ p ih => intro hp; exact (ih (by omega)).step (hwf p (by omega)) (hstep p (by omega))
  refine ⟨R0.step, hw, ?_, hdst, hreads, hdn⟩
  intro q p hqp hp id h
  have hq : q < N := Nat.lt_trans hqp hp
  have I := hseen p (Nat.le_of_lt hp)
  have hnext : n0 ≤ (SS q).next := by rw [← hn0]; exact (hgrow q (Nat.le_of_lt hq)).next
  have hlt : ∀ id, T q id ∨ Ch SS q id → id < (SS p).next := fun id h => by
    have : id < (SS (q + 1)).next := by
      rcases h with h | h
      · exact R0.mine_lt hq (.inl h)
      · exact R0.mine_lt hq (R0.ch_mine hq h)
    exact Nat.lt_of_lt_of_le this (R0.grow' (show q + 1 ≤ p from hqp) (Nat.le_of_lt hp)).next
  have S := hstep p hp
  cases S with
  | skip h1 h2 h3 h4 h5 =>
    rcases h with ⟨_, h⟩ | ⟨_, h⟩
    · exact absurd h (h5 id)
    · rcases h with h | h <;> rw [h3] at h <;> first | omega | exact absurd rfl h
  | pure v h1 h2 h3 h4 h5 h6 =>
    rcases h with ⟨_, h⟩ | ⟨_, h⟩
    · exact absurd h (h6 id)
    · rcases h with h | h <;> rw [h4] at h <;> first | omega | exact absurd rfl h
  | new nb v h1 h2 h3 h4 h5 h6 =>
    rcases h with ⟨_, h⟩ | ⟨hc, h⟩
    · exact absurd h (h6 id)
    · have := hlt id hc
      rcases h with h | h
      · omega
      · rw [h4, newBlk_get, if_neg (by omega)] at h; exact absurd rfl h
  | load i b v h1 h2 h3 h4 h5 h6 h7 h8 =>
    rcases h with ⟨hc, ht⟩ | ⟨_, h⟩
    · obtain rfl := (h8 id).1 ht
      obtain ⟨a1, a2, a3⟩ := okL_cases h4
      rcases I.ch q hqp id hc with ⟨b1, b2⟩ | ⟨b1, b2⟩ | ⟨b1, b2⟩
      · rcases a2 with a2 | a2
        · exact sub'_of a2 b2
        · omega
      · rcases a3 with a3 | a3
        · exact sub'_of a3 b1
        · exact clear_of a3 _ b2
      · exact sub'_of a1 b1
    · rcases h with h | h <;> rw [h6] at h <;> first | omega | exact absurd rfl h
  | store i b b' h1 h2 h3 h4 h5 h6 h7 h8 =>
    obtain ⟨a1, a2, a3, a4⟩ := okS_cases h4
    have key : ∀ id, id = i → T q id ∨ Ch SS q id → (pre p).testBit (ord q) = true := by
      intro id hid hc
      subst hid
      rcases hc with hc | hc
      · rcases I.tc q hqp id hc with ⟨b1, b2⟩ | ⟨b1, b2⟩ | b1
        · rcases a3 with a3 | a3
          · exact sub'_of a3 b1
          · exact clear_of a3 _ b2
        · rcases a4 with a4 | a4
          · exact sub'_of a4 b1
          · exact clear_of a4 _ b2
        · exact sub'_of a1 b1
      · rcases I.ch q hqp id hc with ⟨b1, b2⟩ | ⟨b1, b2⟩ | ⟨b1, b2⟩
        · rcases a2 with a2 | a2
          · exact sub'_of a2 b2
          · omega
        · rcases a3 with a3 | a3
          · exact sub'_of a3 b1
          · exact clear_of a3 _ b2
        · exact sub'_of a1 b2
    rcases h with ⟨hc, ht⟩ | ⟨hc, h⟩
    · exact key id ((h8 id).1 ht) (.inr hc)
    · refine key id ?_ hc
      rcases h with h | h
      · rw [h6] at h; exact absurd h.2 (by show ¬ id < (SS p).next; omega)
      · rw [h6, putBlk_get] at h
        by_cases hid : id = i
        · exact hid
        · rw [if_neg hid] at h; exact absurd rfl h
  | wrote v s1 h1 h2 h3 h4 h5 h6 h7 h8 h9 =>
    obtain ⟨a1, a2, a3⟩ := okH_cases h2
    obtain ⟨a4, a5⟩ := and'_true h6
    have hchg : ∀ id, Ch SS q id → (pre p).testBit (ord q) = true := fun id hc => by
      rcases I.ch q hqp id hc with ⟨b1, b2⟩ | ⟨b1, b2⟩ | ⟨b1, b2⟩
      · exact sub'_of a3 b2
      · exact sub'_of a2 b1
      · exact sub'_of a1 b1
    rcases h with ⟨hc, _⟩ | ⟨hc | hc, _⟩
    · exact hchg id hc
    · rcases I.tc q hqp id hc with ⟨b1, b2⟩ | ⟨b1, b2⟩ | b1
      · exact sub'_of a2 b1
      · exact sub'_of a5 b1
      · exact sub'_of a4 b1
    · exact hchg id hc
  | touch v ids s s1 h1 h2 h3 h4 h5 h6 h7 h8 h9 hA hB hC hD =>
    have key : ∀ id, id ∈ ids → T q id ∨ Ch SS q id → (pre p).testBit (ord q) = true := by
      intro id hid hc
      obtain ⟨a1, a2, a3, a4⟩ := okS_cases (okT_mem h2 id hid)
      rcases hc with hc | hc
      · rcases I.tc q hqp id hc with ⟨b1, b2⟩ | ⟨b1, b2⟩ | b1
        · rcases a3 with a3 | a3
          · exact sub'_of a3 b1
          · exact clear_of a3 _ b2
        · rcases a4 with a4 | a4
          · exact sub'_of a4 b1
          · exact clear_of a4 _ b2
        · exact sub'_of a1 b1
      · rcases I.ch q hqp id hc with ⟨b1, b2⟩ | ⟨b1, b2⟩ | ⟨b1, b2⟩
        · rcases a2 with a2 | a2
          · exact sub'_of a2 b2
          · omega
        · rcases a3 with a3 | a3
          · exact sub'_of a3 b1
          · exact clear_of a3 _ b2
        · exact sub'_of a1 b2
    rcases h with ⟨hc, ht⟩ | ⟨hc, h⟩
    · have := (hD id).1 ht
      rw [hA] at this; split at this
      · rename_i hm; exact key id hm (.inr hc)
      · exact absurd rfl this
    · have hl := hlt id hc
      rcases h with h | h
      · omega
      · rw [hB] at h; split at h
        · rename_i hh
          rcases hh with hh | hh
          · exact key id hh hc
          · omega
        · exact absurd rfl h
  | heavy v s1 h1 h2 h3 h4 h5 h6 h7 h8 =>
    obtain ⟨a1, a2, a3⟩ := okH_cases h2
    have hchg : ∀ id, Ch SS q id → (pre p).testBit (ord q) = true := fun id hc => by
      rcases I.ch q hqp id hc with ⟨b1, b2⟩ | ⟨b1, b2⟩ | ⟨b1, b2⟩
      · exact sub'_of a3 b2
      · exact sub'_of a2 b1
      · exact sub'_of a1 b1
    rcases h with ⟨hc, _⟩ | ⟨hc, h⟩
    · exact hchg id hc
    · rcases hc with hc | hc
      · have hl := hlt id (.inl hc)
        rcases h with h | h
        · omega
        · refine absurd ?_ h
          rw [h6]
          exact h3.1.old id (show id < (SS p).next from hl) (by omega)
      · exact hchg id hc
end
end Go.Proofs.YtffaehgicojjmaaDoor.Ev
namespace Go.Proofs.YtffaehgicojjmaaDoor.Ev
set_option linter.unusedVariables false
set_option linter.unusedSimpArgs false

theorem mkA_eq (mk : Mk) (bit : Nat) (K : Mk → R) : mkA mk bit K = K ⟨Nat.lor mk.al bit, mk.lm, mk.sm, mk.hv, mk.hw, mk.ll, mk.ss⟩ := by
  cases mk; simp only [mkA, mkL, mkS, seqN_eq]
theorem mkL_eq (mk : Mk) (bit id : Nat) (K : Mk → R) : mkL mk bit id K = K ⟨mk.al, Nat.lor mk.lm bit, mk.sm, mk.hv, mk.hw, (bit, id) :: mk.ll, mk.ss⟩ := by
  cases mk; simp only [mkA, mkL, mkS, seqN_eq]
theorem mkS_eq (mk : Mk) (bit id : Nat) (K : Mk → R) : mkS mk bit id K = K ⟨mk.al, mk.lm, Nat.lor mk.sm bit, mk.hv, mk.hw, mk.ll, (bit, id) :: mk.ss⟩ := by
  cases mk; simp only [mkA, mkL, mkS, seqN_eq]
theorem mkH_eq (mk : Mk) (bit : Nat) (K : Mk → R) : mkH mk bit K = K ⟨Nat.lor mk.al bit, mk.lm, mk.sm, Nat.lor mk.hv bit, mk.hw, mk.ll, mk.ss⟩ := by
  cases mk; simp only [mkH, seqN_eq]
theorem mkW_eq (mk : Mk) (bit : Nat) (K : Mk → R) : mkW mk bit K = K ⟨Nat.lor mk.al bit, mk.lm, mk.sm, Nat.lor mk.hv bit, Nat.lor mk.hw bit, mk.ll, mk.ss⟩ := by
  cases mk; simp only [mkW, seqN_eq]
theorem heavyK_done {n lo pre bit : Nat} {mk : Mk} {K : Mk → St → R} {st : St} {x : X} {tf : PM V} {sf : St} (h : heavyK n lo pre bit mk K st = .done x tf sf) :
    (st.low < n ∧ okW mk pre = true ∧ K ⟨Nat.lor mk.al bit, mk.lm, mk.sm, Nat.lor mk.hv bit, Nat.lor mk.hw bit, mk.ll, mk.ss⟩ ⟨st.heap, st.next, min lo st.low⟩ = .done x tf sf) ∨
    (n ≤ st.low ∧ K ⟨Nat.lor mk.al bit, mk.lm, mk.sm, Nat.lor mk.hv bit, mk.hw, mk.ll, mk.ss⟩ ⟨st.heap, st.next, lo⟩ = .done x tf sf) := by
  obtain ⟨hp, nx, l⟩ := st
  have h' : iteB (Nat.blt l n) (iteB (okW mk pre) (minK lo l fun l => mkW mk bit fun mk => K mk ⟨hp, nx, l⟩) (.fail 90)) (mkH mk bit fun mk => K mk ⟨hp, nx, lo⟩) = .done x tf sf := h
  rw [iteB_eq] at h'
  split at h'
  · rename_i hl
    obtain ⟨h1, h2⟩ := ite_done h'
    rw [minK_eq, mkW_eq] at h2
    exact .inl ⟨blt_of hl, h1, h2⟩
  · rename_i hl
    rw [mkH_eq] at h'
    refine .inr ⟨?_, h'⟩
    refine Classical.byContradiction fun hn => hl ?_
    exact Nat.ble_eq_true_of_le (show l + 1 ≤ n by have : ¬ n ≤ l := hn; omega)
theorem ptrOf_done {tm : Ev} {F : Nat} {c : C1} {K : Nat → R} {x : X} {tf : PM V} {sf : St} (h : ptrOf tm F c K = .done x tf sf) : ∃ id, K id = .done x tf sf ∧ ∀ F K', ptrOf tm F c K' = K' id := by
  unfold ptrOf at h
  split at h
  · obtain ⟨id, off, e, h1⟩ := asPtr_done h; exact ⟨id, h1, fun F K' => by show asPtr F _ _ = _; rw [e]; rfl⟩
  · obtain ⟨id, off, e, h1⟩ := asPtr_done h; exact ⟨id, h1, fun F K' => by show asPtr F _ _ = _; rw [e]; rfl⟩
  · obtain ⟨id, off, e, h1⟩ := asPtr_done h; exact ⟨id, h1, fun F K' => by show asPtr F _ _ = _; rw [e]; rfl⟩
  · obtain ⟨id, off, e, h1⟩ := asPtr_done h; exact ⟨id, h1, fun F K' => by show asPtr F _ _ = _; rw [e]; rfl⟩
  · cases h
theorem ptr_same {tm : Ev} {c : C1} {i j : Nat} (h : ∀ F K', ptrOf tm F c K' = K' i) (h' : ∀ F K', ptrOf tm F c K' = K' j) : i = j := by
  have : R.fail i = R.fail j := by rw [← h 0 (fun k => .fail k), ← h' 0 (fun k => .fail k)]
  cases this; rfl
theorem compRegion_get {P : Program} {g n : Nat} {ops : List Oper} : ∀ (rest : List Oper) (i : Nat), (compRegion P g n ops rest)[i]? = (rest[i]?).map (compCO P g n ops)
  | [], i => by simp [compRegion]
  | o :: r, 0 => by simp [compRegion]
  | o :: r, i + 1 => by simp only [compRegion, List.getElem?_cons_succ]; exact compRegion_get r i

theorem touchOf_done {tm : Ev} {c : C1} {K : List Nat → R} {x : X} {tf : PM V} {sf : St} (h : touchOf tm c K = .done x tf sf) : ∃ ids, K ids = .done x tf sf := by
  unfold touchOf at h
  split at h
  · obtain ⟨a, _, h1⟩ := asSc_done h
    obtain ⟨b, _, h2⟩ := asSc_done h1
    rw [seqL_eq] at h2; exact ⟨_, h2⟩
  · obtain ⟨a, _, h1⟩ := asSc_done h
    rw [seqL_eq] at h1; exact ⟨_, h1⟩
  · obtain ⟨a, _, h1⟩ := asSc_done h
    obtain ⟨b, _, h2⟩ := asSc_done h1
    rw [seqL_eq] at h2; exact ⟨_, h2⟩
  · cases h
noncomputable def takeP (h : PM Blk) : List Nat → PM Blk → PM Blk
  | [], g => g
  | id :: l, g => takeP h l (PM.set (id + 1) g id (h.get id))
theorem takeH_eq (h : PM Blk) : ∀ (l : List Nat) (g : PM Blk) (K : PM Blk → R), takeH h l g K = K (takeP h l g)
  | [], g, K => rfl
  | id :: l, g, K => by
    show PM.setK (Nat.succ id) g id (h.get id) (fun g => takeH h l g K) = _
    rw [PM.setK_eq, takeH_eq h l]; rfl
theorem takeP_get (h : PM Blk) : ∀ (l : List Nat) (g : PM Blk) (i : Nat), (takeP h l g).get i = if i ∈ l then h.get i else g.get i
  | [], g, i => by simp [takeP]
  | id :: l, g, i => by
    simp only [takeP]
    rw [takeP_get h l, PM.get_set _ _ _ _ _ (by omega)]
    by_cases h1 : i ∈ l
    · rw [if_pos h1, if_pos (by simp [h1])]
    · by_cases h2 : i = id
      · subst h2; rw [if_neg h1, if_pos rfl, if_pos (by simp)]
      · rw [if_neg h1, if_neg h2, if_neg (by simp [h1, h2])]
theorem mkT_eq (mk : Mk) (bit : Nat) (l : List Nat) (K : Mk → R) : mkT mk bit l K = K ⟨Nat.lor mk.al bit, mk.lm, Nat.lor mk.sm bit, mk.hv, mk.hw, mk.ll, l.map (fun id => (bit, id)) ++ mk.ss⟩ := by
  obtain ⟨al, lm, sm, hv, hw, ll, ss⟩ := mk
  have : ∀ l : List Nat, (List.rec (motive := fun _ => List (Nat × Nat)) ss (fun id _ ih => (bit, id) :: ih) l : List (Nat × Nat)) = l.map (fun id => (bit, id)) ++ ss := by
    intro l
    induction l with
    | nil => rfl
    | cons a l ih => show (bit, a) :: _ = _; rw [ih]; rfl
  simp only [mkT, seqN_eq, this]
theorem mergeK_done {st s1 : St} {ids : List Nat} {K : St → R} {x : X} {tf : PM V} {sf : St} (h : mergeK st ids s1 K = .done x tf sf) :
    ∃ st', K st' = .done x tf sf ∧ st'.next = s1.next ∧ st'.low = s1.low ∧ ∀ id, st'.heap.get id = if id ∈ ids ∨ (st.next ≤ id ∧ id < s1.next) then s1.heap.get id else st.heap.get id := by
  unfold mergeK at h
  rw [takeH_eq, iteB_eq] at h
  split at h
  · rename_i hn
    have hn := beq_of hn
    refine ⟨_, h, rfl, rfl, fun id => ?_⟩
    show (takeP s1.heap ids st.heap).get id = _
    rw [takeP_get]
    by_cases h1 : id ∈ ids
    · rw [if_pos h1, if_pos (.inl h1)]
    · rw [if_neg h1, if_neg (by rintro (h2 | h2); exact h1 h2; omega)]
  · obtain ⟨hn, h⟩ := ite_done h
    have hn : s1.next = st.next + 1 := beq_of hn
    rw [takeH_eq] at h
    refine ⟨_, h, rfl, rfl, fun id => ?_⟩
    show (takeP s1.heap [st.next] (takeP s1.heap ids st.heap)).get id = _
    rw [takeP_get, takeP_get]
    by_cases h0 : id = st.next
    · rw [if_pos (by simp [h0]), if_pos (.inr (by omega))]
    · rw [if_neg (by simp [h0])]
      by_cases h1 : id ∈ ids
      · rw [if_pos h1, if_pos (.inl h1)]
      · rw [if_neg h1, if_neg (by rintro (h2 | h2); exact h1 h2; omega)]
theorem grow_merge {st s s1 st' : St} {ids : List Nat} (G : Grow s s1) (h5 : s.next = st.next) (h6 : st'.next = s1.next) (h7 : st'.low = s1.low) (h8 : s.low = st.low) (hA : ∀ id, s.heap.get id = if id ∈ ids then st.heap.get id else none)
    (hB : ∀ id, st'.heap.get id = if id ∈ ids ∨ (st.next ≤ id ∧ id < s1.next) then s1.heap.get id else st.heap.get id) : Grow st st' := by
  have hws : WfS st → WfS s := fun hw id hid => by
    rw [hA]; split
    · exact hw id (by omega)
    · rfl
  refine ⟨by rw [h6, ← h5]; exact G.next, by rw [h7, ← h8]; exact G.low, fun id h1 h2 => ?_, fun id h1 h2 => ?_, fun id b h1 h2 => ?_, fun hw id b h1 h2 => ?_, fun hw id h1 => ?_⟩
  · rw [hB]; split
    · rename_i hc
      rcases hc with hc | hc
      · rw [G.old id (by omega) (by omega), hA, if_pos hc]
      · omega
    · rfl
  · rw [hB]; split
    · rename_i hc
      rcases hc with hc | hc
      · exact G.gone id (by omega) (by rw [hA, if_pos hc]; exact h2)
      · omega
    · exact h2
  · rw [hB] at h2; split at h2
    · rename_i hc
      rcases hc with hc | hc
      · obtain ⟨c, e1, e2⟩ := G.keepOwn id b (by omega) h2
        rw [hA, if_pos hc] at e1
        exact ⟨c, e1, e2⟩
      · omega
    · exact ⟨b, h2, rfl⟩
  · rw [hB] at h2; split at h2
    · exact G.newOwn (hws hw) id b (by omega) h2
    · rw [hw id h1] at h2; cases h2
  · rw [h6] at h1
    rw [hB]; split
    · exact G.wf (hws hw) id h1
    · exact hw id (by have := G.next; omega)
theorem clsD_cases (c : C1) : (clsD c = clsOf c ∧ clsD c ≠ 5) ∨ (clsD c = 5 ∧ clsOf c = 3) := by
  have h5 : clsOf c ≠ 5 := by unfold clsOf; split <;> simp
  unfold clsD
  split
  · exact .inr ⟨rfl, rfl⟩
  · exact .inr ⟨rfl, rfl⟩
  · exact .inr ⟨rfl, rfl⟩
  · exact .inl ⟨rfl, h5⟩
section
variable {P : Program} {g n n0 : Nat} {call : CallK}
/-- one step of the evaluator -/
theorem evD_step (hcall : CallOk P g call) {o : Oper} {c : C1} {gd : Option (Nat × Bool)} {bit pre : Nat} {mk : Mk} {tm : Ev} {st : St} {K : Mk → Ev → St → R} {x : X} {tf : PM V} {sf : St} (hc : compOp P g o.op = some c)
    (h : gopD tm (gpath gd) (fun j => evCls call n0 c bit pre mk tm st j (clsD c)) mk st (fun v mk st => putK tm (o.dst.map pathOf) v fun tm => K mk tm st) = .done x tf sf) :
    ∃ tm' st' mk' T, K mk' tm' st' = .done x tf sf ∧ StepOk P g n0 o gd bit pre tm st mk tm' st' mk' T := by
  rcases (gopD_done h).symm with ⟨hw, h⟩ | ⟨hw, h⟩
  · rw [putK_eq] at h
    exact ⟨_, _, _, fun _ => False, h, .skip hw rfl rfl rfl fun _ h => h⟩
  · rcases clsD_cases c with ⟨hcd, _⟩ | ⟨hcd, hcf⟩
    rotate_left
    · rw [hcd] at h
      obtain ⟨ids, h1⟩ := touchOf_done (show touchOf tm c (fun ids => iteB (okT mk n0 pre ids) (takeH st.heap ids .leaf fun h => op1 call tm ⟨h, st.next, st.low⟩ (fun v s => mergeK st ids s fun st => mkT mk bit ids fun mk => putK tm (o.dst.map pathOf) v fun tm => K mk tm st) c) (.fail 85)) = .done x tf sf from h)
      obtain ⟨hok, h2⟩ := ite_done h1
      rw [takeH_eq] at h2
      cases op_ok hcall hc h2 with
      | heavy v s1 _ h3 h4 =>
        obtain ⟨st', h5, h6, h7, hB⟩ := mergeK_done h3
        rw [mkT_eq, putK_eq] at h5
        have hA : ∀ id, (takeP st.heap ids .leaf).get id = if id ∈ ids then st.heap.get id else none := fun id => by rw [takeP_get]; simp
        have hG : Grow st st' := grow_merge (s := ⟨takeP st.heap ids .leaf, st.next, st.low⟩) h4.1 rfl h6 h7 rfl hA hB
        exact ⟨_, st', _, fun i => (takeP st.heap ids .leaf).get i ≠ none, h5, .touch v ids ⟨takeP st.heap ids .leaf, st.next, st.low⟩ s1 hw hok h4 rfl rfl h6.symm h7 hG.low hG hA hB rfl fun _ => Iff.rfl⟩
      | pure v e' => rw [hcf] at e'; cases e'
      | new nb v e' => rw [hcf] at e'; cases e'
      | load id b v e' => rw [hcf] at e'; cases e'
      | store id b b' e' => rw [hcf] at e'; cases e'
    rw [hcd] at h
    have hcls : clsOf c = 0 ∨ clsOf c = 1 ∨ clsOf c = 2 ∨ clsOf c = 3 ∨ clsOf c = 4 := by unfold clsOf; split <;> simp
    rcases hcls with e | e | e | e | e
    · rw [e] at h
      have h1 : op1 call tm st (fun v st => putK tm (o.dst.map pathOf) v fun tm => K mk tm st) c = .done x tf sf := h
      cases op_ok hcall hc h1 with
      | pure v _ h2 h3 => simp only [putK_eq] at h2; exact ⟨_, _, _, fun _ => False, h2, .pure v hw h3 rfl rfl rfl fun _ h => h⟩
      | new nb v e' => rw [e] at e'; cases e'
      | load id b v e' => rw [e] at e'; cases e'
      | heavy v st' e' => rw [e] at e'; cases e'
      | store id b b' e' => rw [e] at e'; cases e'
    · rw [e] at h
      have h1 : op1 call tm st (fun v st => mkA mk bit fun mk => putK tm (o.dst.map pathOf) v fun tm => K mk tm st) c = .done x tf sf := h
      cases op_ok hcall hc h1 with
      | new nb v _ h2 h3 => simp only [putK_eq, mkA_eq] at h2; exact ⟨_, _, _, fun _ => False, h2, .new nb v hw h3 rfl rfl rfl fun _ h => h⟩
      | pure v e' => rw [e] at e'; cases e'
      | load id b v e' => rw [e] at e'; cases e'
      | heavy v st' e' => rw [e] at e'; cases e'
      | store id b b' e' => rw [e] at e'; cases e'
    · rw [e] at h
      have h0 : ptrOf tm 63 c (fun id => iteB (okL mk n0 pre id) (op1 call tm st (fun v st => mkL mk bit id fun mk => putK tm (o.dst.map pathOf) v fun tm => K mk tm st) c) (.fail 87)) = .done x tf sf := h
      obtain ⟨id, h0, hp⟩ := ptrOf_done h0
      obtain ⟨hok, h1⟩ := ite_done h0
      cases op_ok hcall hc h1 with
      | load id' b v _ hp' hb h2 h3 =>
        obtain rfl := ptr_same hp hp'
        simp only [putK_eq, mkL_eq] at h2
        exact ⟨_, _, _, fun i => i = id, h2, .load id b v hw hb h3 hok rfl rfl rfl fun _ => Iff.rfl⟩
      | pure v e' => rw [e] at e'; cases e'
      | new nb v e' => rw [e] at e'; cases e'
      | heavy v st' e' => rw [e] at e'; cases e'
      | store id b b' e' => rw [e] at e'; cases e'
    · rw [e] at h
      have h0 : iteB (okH mk pre) (op1 call tm (setLow st st.next) (fun v st' => heavyK st.next st.low pre bit mk (fun mk st => putK tm (o.dst.map pathOf) v fun tm => K mk tm st) st') c) (.fail 89) = .done x tf sf := h
      obtain ⟨hok, h1⟩ := ite_done h0
      cases op_ok hcall hc h1 with
      | heavy v s1 _ h2 h3 =>
        rcases heavyK_done h2 with ⟨a1, a2, a3⟩ | ⟨a1, a3⟩
        · rw [putK_eq] at a3
          exact ⟨_, _, _, fun i => st.heap.get i ≠ none, a3, .wrote v s1 hw hok h3 rfl a1 a2 rfl rfl fun _ => Iff.rfl⟩
        · rw [putK_eq] at a3
          exact ⟨_, _, _, fun i => st.heap.get i ≠ none, a3, .heavy v s1 hw hok h3 rfl a1 rfl rfl fun _ => Iff.rfl⟩
      | pure v e' => rw [e] at e'; cases e'
      | new nb v e' => rw [e] at e'; cases e'
      | load id b v e' => rw [e] at e'; cases e'
      | store id b b' e' => rw [e] at e'; cases e'
    · rw [e] at h
      have h0 : ptrOf tm 64 c (fun id => iteB (okS mk n0 pre id) (op1 call tm st (fun v st => mkS mk bit id fun mk => putK tm (o.dst.map pathOf) v fun tm => K mk tm st) c) (.fail 88)) = .done x tf sf := h
      obtain ⟨id, h0, hp⟩ := ptrOf_done h0
      obtain ⟨hok, h1⟩ := ite_done h0
      cases op_ok hcall hc h1 with
      | store id' b b' _ hp' hb h2 h3 =>
        obtain rfl := ptr_same hp hp'
        simp only [putK_eq, mkS_eq] at h2
        exact ⟨_, _, _, fun i => i = id, h2, .store id b b' hw hb h3 hok rfl rfl rfl fun _ => Iff.rfl⟩
      | pure v e' => rw [e] at e'; cases e'
      | new nb v e' => rw [e] at e'; cases e'
      | load id b v e' => rw [e] at e'; cases e'
      | heavy v st' e' => rw [e] at e'; cases e'
def shift {α : Type} (a : α) (f : Nat → α) : Nat → α | 0 => a | p + 1 => f p
/-- the evaluator's run, step by step -/
theorem trace (hcall : CallOk P g call) {ops : List Oper} {pres : List Nat} : ∀ (is : List Nat) {mk : Mk} {tm : Ev} {st : St} {K : Ev → St → R} {x : X} {tz : PM V} {sz : St},
    evD call n0 (is.map (compDO P n ops pres (compRegion P g n ops ops))) mk tm st K = .done x tz sz →
    ∃ tf sf, K tf sf = .done x tz sz ∧ ∃ (TM : Nat → Ev) (SS : Nat → St) (MK : Nat → Mk) (T : Nat → Nat → Prop), TM 0 = tm ∧ SS 0 = st ∧ MK 0 = mk ∧ TM is.length = tf ∧ SS is.length = sf ∧
      ∀ p i, is[p]? = some i → ∃ o gd pre, ops[i]? = some o ∧ pres[i]? = some pre ∧ guardT ops o.guard = some gd ∧ dstOk n o.dst = true ∧
        StepOk P g n0 o gd (2 ^ i) pre (TM p) (SS p) (MK p) (TM (p + 1)) (SS (p + 1)) (MK (p + 1)) (T p) ∧ (compDO P n ops pres (compRegion P g n ops ops) i).dst = o.dst.map pathOf
  | [], mk, tm, st, K, x, tz, sz, h => by
    exact ⟨tm, st, h, fun _ => tm, fun _ => st, fun _ => mk, fun _ _ => False, rfl, rfl, rfl, rfl, rfl, fun p i hp => by simp at hp⟩
  | i :: is, mk, tm, st, K, x, tz, sz, h => by
    have h1 : evD call n0 (compDO P n ops pres (compRegion P g n ops ops) i :: is.map (compDO P n ops pres (compRegion P g n ops ops))) mk tm st K = .done x tz sz := h
    unfold compDO at h1
    rw [compRegion_get] at h1
    cases ho : ops[i]? with
    | none => rw [ho] at h1; cases h1
    | some o =>
      rw [ho] at h1
      cases hpr : pres[i]? with
      | none => rw [hpr] at h1; cases h1
      | some pre =>
        rw [hpr] at h1
        simp only [Option.map_some] at h1
        unfold compCO at h1
        cases hc : compOp P g o.op with
        | none =>
          rw [hc] at h1
          cases hg : guardT ops o.guard with
          | none => rw [hg] at h1; cases h1
          | some gd => rw [hg] at h1; cases h1
        | some c =>
          rw [hc] at h1
          cases hg : guardT ops o.guard with
          | none => rw [hg] at h1; cases h1
          | some gd =>
            rw [hg] at h1
            simp only at h1
            cases hd : dstOk n o.dst with
            | false => rw [hd] at h1; cases h1
            | true =>
              rw [hd] at h1
              simp only [if_true] at h1
              have h2 : gopD tm (gpath gd) (fun j => evCls call n0 c (2 ^ i) pre mk tm st j (clsD c)) mk st (fun v mk st => putK tm (o.dst.map pathOf) v fun tm => evD call n0 (is.map (compDO P n ops pres (compRegion P g n ops ops))) mk tm st K) = .done x tz sz := h1
              obtain ⟨tm', st', mk', T0, h3, h4⟩ := evD_step hcall hc h2
              obtain ⟨tf, sf, hK, TM, SS, MK, T, e1, e2, e3, e4, e5, e6⟩ := trace hcall is h3
              refine ⟨tf, sf, hK, shift tm TM, shift st SS, shift mk MK, shift T0 T, rfl, rfl, rfl, e4, e5, ?_⟩
              intro p j hp
              cases p with
              | zero =>
                simp at hp; subst hp
                refine ⟨o, gd, pre, ho, hpr, hg, hd, ?_, by unfold compDO; rw [compRegion_get, ho, hpr]; simp only [Option.map_some]; unfold compCO; rw [hc, hg]; simp [hd]⟩
                show StepOk P g n0 o gd (2 ^ i) pre tm st mk (TM 0) (SS 0) (MK 0) T0
                rw [e1, e2, e3]; exact h4
              | succ p => exact e6 p j (by simpa using hp)
end

/-! ### what was looked at -/
theorem pairsOk_get : ∀ {l : List Info}, pairsOk l = true → ∀ (p q : Nat) (e f : Info), p < q → l[p]? = some e → l[q]? = some f → pairOk e f = true
  | [], _, p, q, e, f, _, h, _ => by simp at h
  | a :: r, h, p, q, e, f, hlt, hp, hq => by
    simp only [pairsOk, Bool.and_eq_true] at h
    cases q with
    | zero => omega
    | succ q =>
      cases p with
      | zero =>
        simp at hp; subst hp
        exact List.all_eq_true.1 h.1 f (List.mem_of_getElem? (by simpa using hq))
      | succ p => exact pairsOk_get h.2 p q e f (by omega) (by simpa using hp) (by simpa using hq)
theorem infos_get {ops : List Oper} {pres : List Nat} : ∀ {is : List Nat} {l : List Info}, infos ops pres is = some l → ∀ (p i : Nat), is[p]? = some i → ∃ (o : Oper) (m : Nat), ops[i]? = some o ∧ pres[i]? = some m ∧ l[p]? = some ⟨i, m, o.dst, looks ops o⟩
  | [], l, h, p, i, hp => by simp at hp
  | j :: is, l, h, p, i, hp => by
    simp only [infos] at h
    split at h
    · rename_i o m l' e1 e2 e3
      cases h
      cases p with
      | zero => simp at hp; subst hp; exact ⟨o, m, e1, e2, rfl⟩
      | succ p =>
        obtain ⟨o', m', a1, a2, a3⟩ := infos_get e3 p i (by simpa using hp)
        exact ⟨o', m', a1, a2, by simpa using a3⟩
    · cases h
theorem backOk_get : ∀ {l : List Oper} {k : Nat}, backOk k l = true → ∀ (i : Nat) (o : Oper), l[i]? = some o → ∀ e, e ∈ o.after → bindsAny e = true → e.on < k + i
  | [], k, _, i, o, h => by simp at h
  | a :: r, k, h, i, o, hi => by
    simp only [backOk, Bool.and_eq_true] at h
    intro e he hb
    cases i with
    | zero =>
      simp at hi; subst hi
      have := List.all_eq_true.1 h.1 e (by simpa using he)
      simp only [hb, Bool.not_true, Bool.false_or] at this
      exact blt_of this
    | succ i =>
      have := backOk_get h.2 i o (by simpa using hi) e he hb
      omega
theorem maskOf_mem : ∀ {l : List Nat} {m i : Nat}, Nat.testBit (maskOf l m) i = true → Nat.testBit m i = true ∨ i ∈ l
  | [], m, i, h => .inl h
  | j :: r, m, i, h => by
    rcases maskOf_mem (l := r) h with h1 | h1
    · have h2 : Nat.testBit (m ||| 2 ^ j) i = true := h1
      rw [Nat.testBit_or, Nat.testBit_two_pow] at h2
      simp only [Bool.or_eq_true, decide_eq_true_eq] at h2
      rcases h2 with h2 | h2
      · exact .inl h2
      · exact .inr (by simp [h2])
    · exact .inr (by simp [h1])
theorem nodupM_get : ∀ {l : List Nat} {m : Nat}, nodupM l m = true → (∀ i, i ∈ l → Nat.testBit m i = false) ∧ ∀ (p q i : Nat), l[p]? = some i → l[q]? = some i → p = q
  | [], m, h => ⟨(fun i hi => by cases hi), (fun p q i hp => by simp at hp)⟩
  | j :: r, m, h => by
    simp only [nodupM, Bool.and_eq_true, Bool.not_eq_true'] at h
    obtain ⟨h1, h2⟩ := nodupM_get h.2
    have hm : ∀ i, i ∈ r → Nat.testBit m i = false ∧ i ≠ j := fun i hi => by
      have h3 : Nat.testBit (m ||| 2 ^ j) i = false := h1 i hi
      rw [Nat.testBit_or, Nat.testBit_two_pow] at h3
      simp only [Bool.or_eq_false_iff, decide_eq_false_iff_not] at h3
      exact ⟨h3.1, fun he => h3.2 he.symm⟩
    refine ⟨fun i hi => ?_, fun p q i hp hq => ?_⟩
    · rcases List.mem_cons.1 hi with rfl | hi
      · exact h.1
      · exact (hm i hi).1
    · cases p with
      | zero =>
        simp at hp; subst hp
        cases q with
        | zero => rfl
        | succ q => exact absurd rfl (hm j (List.mem_of_getElem? (by simpa using hq))).2
      | succ p =>
        cases q with
        | zero =>
          simp at hq; subst hq
          exact absurd rfl (hm j (List.mem_of_getElem? (by simpa using hp))).2
        | succ q => rw [h2 p q i (by simpa using hp) (by simpa using hq)]
theorem binds_any (e : Edge) : Region.binds .any e = bindsAny e := by
  unfold Region.binds bindsAny
  cases e.ground <;> rfl
/-- what a mask of what must run ahead holds -/
theorem preOf_bit {pres : List Nat} : ∀ {l : List Edge} {r : Nat}, Nat.testBit (preOf pres l) r = true → ∃ e, e ∈ l ∧ ∃ m, pres[e.on]? = some m ∧ (r = e.on ∨ Nat.testBit m r = true)
  | [], r, h => by simp [preOf] at h
  | e :: l, r, h => by
    simp only [preOf] at h
    split at h
    · rename_i q hq
      have h' : Nat.testBit ((2 ^ e.on ||| q) ||| preOf pres l) r = true := h
      rw [Nat.testBit_or, Nat.testBit_or, Nat.testBit_two_pow] at h'
      simp only [Bool.or_eq_true, decide_eq_true_eq] at h'
      rcases h' with (h' | h') | h'
      · exact ⟨e, by simp, q, hq, .inl h'.symm⟩
      · exact ⟨e, by simp, q, hq, .inr h'⟩
      · obtain ⟨e', h1, m, h2, h3⟩ := preOf_bit h'
        exact ⟨e', by simp [h1], m, h2, h3⟩
    · obtain ⟨e', h1, m, h2, h3⟩ := preOf_bit h
      exact ⟨e', by simp [h1], m, h2, h3⟩
theorem presOf_get : ∀ (rest : List Oper) (acc : List Nat) (ops : List Oper), (∀ k, rest[k]? = ops[acc.length + k]?) →
    (∀ (i m : Nat), acc[i]? = some m → ∃ o : Oper, ops[i]? = some o ∧ ∀ r, Nat.testBit m r = true → ∃ e, e ∈ o.after ∧ bindsAny e = true ∧ ∃ m', acc[e.on]? = some m' ∧ (r = e.on ∨ Nat.testBit m' r = true)) →
    ∀ (i m : Nat), (presOf acc rest)[i]? = some m → ∃ o : Oper, ops[i]? = some o ∧ ∀ r, Nat.testBit m r = true → ∃ e, e ∈ o.after ∧ bindsAny e = true ∧ ∃ m', (presOf acc rest)[e.on]? = some m' ∧ (r = e.on ∨ Nat.testBit m' r = true)
  | [], acc, ops, _, h => h
  | o :: rest, acc, ops, hk, h => by
    simp only [presOf]
    refine presOf_get rest _ ops (fun k => ?_) fun i m him => ?_
    · have := hk (k + 1)
      simp at this
      simp only [List.length_append, List.length_cons, List.length_nil]
      rw [this]; congr 1; omega
    · by_cases hi : i < acc.length
      · rw [List.getElem?_append_left hi] at him
        obtain ⟨o', h1, h2⟩ := h i m him
        refine ⟨o', h1, fun r hr => ?_⟩
        obtain ⟨e, a1, a2, m', a3, a4⟩ := h2 r hr
        have : e.on < acc.length := (List.getElem?_eq_some_iff.1 a3).1
        exact ⟨e, a1, a2, m', by rw [List.getElem?_append_left this]; exact a3, a4⟩
      · have hlt : i < (acc ++ [preOf acc (o.after.toList.filter bindsAny)]).length := (List.getElem?_eq_some_iff.1 him).1
        simp at hlt
        have hie : i = acc.length := by omega
        subst hie
        rw [List.getElem?_append_right (Nat.le_refl _)] at him
        simp at him
        subst him
        refine ⟨o, by have := hk 0; simpa using this.symm, fun r hr => ?_⟩
        obtain ⟨e, a1, m', a3, a4⟩ := preOf_bit hr
        have : e.on < acc.length := (List.getElem?_eq_some_iff.1 a3).1
        rw [List.mem_filter] at a1
        exact ⟨e, by simpa using a1.1, a1.2, m', by rw [List.getElem?_append_left this]; exact a3, a4⟩
theorem tmpsOf_mem {t : Nat} : ∀ {l : List Operand}, Operand.tmp t ∈ l → t ∈ tmpsOf l
  | [], h => by cases h
  | x :: l, h => by
    rcases List.mem_cons.1 h with h | h
    · subst h; simp [tmpsOf]
    · have := tmpsOf_mem h
      cases x <;> simp [tmpsOf, this]
theorem looks_mem {ops : List Oper} {o : Oper} {gd : Option (Nat × Bool)} {d : Nat} (hg : guardT ops o.guard = some gd) (h : Operand.tmp d ∈ o.op.operands ∨ ∃ w, gd = some (d, w)) : d ∈ looks ops o := by
  unfold looks
  rw [hg]
  rcases h with h | ⟨w, rfl⟩
  · have : d ∈ tmpsOf o.op.operands.toList := tmpsOf_mem (by simpa using h)
    cases gd with
    | none => exact this
    | some p => exact .tail _ this
  · exact .head _
theorem hasN_of {d : Nat} {l : List Nat} (h : d ∈ l) : hasN (some d) l = true := List.any_eq_true.2 ⟨d, h, Nat.beq_refl d⟩
end Go.Proofs.YtffaehgicojjmaaDoor.Ev
namespace Go.Proofs.YtffaehgicojjmaaDoor.Ev
set_option linter.unusedVariables false
set_option linter.unusedSimpArgs false
theorem Run.imp {P : Program} {g n N : Nat} {opAt : Nat → Oper} {gd : Nat → Option (Nat × Bool)} {TM : Nat → Ev} {SS : Nat → St} {T : Nat → Nat → Prop} {Pre Pre' : Nat → Nat → Prop} (h : ∀ p q, q < N → Pre p q → Pre' p q)
    (R : Run P g n N opAt gd TM SS T Pre) : Run P g n N opAt gd TM SS T Pre' :=
  ⟨R.step, R.wf, fun q p hqp hp id hh => h p q (Nat.lt_trans hqp hp) (R.ni q p hqp hp id hh), R.dst, fun q p hq hp hne d hd hr => by
    rcases R.reads q p hq hp hne d hd hr with ⟨h1, h2⟩ | ⟨h1, h2⟩
    · exact .inl ⟨h1, h p q hq h2⟩
    · exact .inr ⟨h1, h q p hp h2⟩, R.dn⟩
theorem StepOk.off {P : Program} {g n0 : Nat} {o : Oper} {gd : Option (Nat × Bool)} {bit pre : Nat} {tm tm' : Ev} {st st' : St} {mk mk' : Mk} {T : Nat → Prop} (h : StepOk P g n0 o gd bit pre tm st mk tm' st' mk' T) {p : Pth} (hp : o.dst.map pathOf ≠ some p) : tm' p = tm p := by
  have : ∃ v, tm' = putT tm o.dst v := by
    cases h <;> exact ⟨_, by assumption⟩
  obtain ⟨v, rfl⟩ := this
  exact putT_off tm o.dst v hp
section
variable {P : Program} {g n : Nat} {call : CallK}

/-- a region that draws its order -/
theorem drawn_region (hcall : CallOk P g call) (hm : P.follows .mixedOrders = true) {id : Nat} {ops : Array Oper} {tm : Ev} {st : St} {K : Ev → St → R} {x : X} {tz : PM V} {sz : St}
    (h : evD call st.next (compDrawn P g n ops.toList) mk0 tm st K = .done x tz sz) :
    ∃ tf sf, K tf sf = .done x tz sz ∧ (∀ p, (∀ d, d ∈ (compDrawn P g n ops.toList).map (·.dst) → d ≠ some p) → tf p = tm p) ∧ Does P g n tm st tf sf (fun Q a w => ∀ Qx : Exit → Act → World → Prop, (∀ a' w', Q a' w' → Qx .normal a' w') → (Code.region id ops true).wp P Qx a w) := by
  unfold compDrawn at h ⊢
  simp only at h ⊢
  generalize hpres : presOf [] ops.toList = pres at h ⊢
  generalize hisd : ordD ops.toList pres ((compRegion P g n ops.toList ops.toList).map fun c => clsOf c.op) = is at h ⊢
  cases hchk : chkD ops.toList pres is with
  | false => rw [hchk] at h; cases h
  | true =>
    rw [hchk] at h
    simp only [if_true] at h ⊢
    obtain ⟨tf, sf, hK, TM, SS, MK, T, e1, e2, e3, e4, e5, e6⟩ := trace hcall is h
    unfold chkD at hchk
    simp only [Bool.and_eq_true] at hchk
    obtain ⟨c1, c2, c3, c4, c5⟩ := hchk
    have hlen : is.length = ops.size := by have := beq_of c1; simpa using this
    obtain ⟨_, hnd⟩ := nodupM_get c2
    have hmask := beq_of c3
    cases hinf : infos ops.toList pres is with
    | none => rw [hinf] at c5; cases c5
    | some inf =>
      rw [hinf] at c5
      simp only at c5
      -- positions and operations
      let ord : Nat → Nat := fun p => (is[p]?).getD 0
      have hord : ∀ p, p < ops.size → is[p]? = some (ord p) := fun p hp => by
        show is[p]? = some ((is[p]?).getD 0)
        rw [List.getElem?_eq_getElem (by omega)]; rfl
      let opAt : Nat → Oper := fun p => (ops[ord p]?).getD default
      let gd : Nat → Option (Nat × Bool) := fun p => (guardT ops.toList (opAt p).guard).getD none
      let pre : Nat → Nat := fun p => (pres[ord p]?).getD 0
      have hall : ∀ p, p < ops.size → ops[ord p]? = some (opAt p) ∧ pres[ord p]? = some (pre p) ∧ guardT ops.toList (opAt p).guard = some (gd p) ∧ dstOk n (opAt p).dst = true ∧
          StepOk P g st.next (opAt p) (gd p) (2 ^ ord p) (pre p) (TM p) (SS p) (MK p) (TM (p + 1)) (SS (p + 1)) (MK (p + 1)) (T p) := fun p hp => by
        obtain ⟨o, gd0, pre0, a1, a2, a3, a4, a5, _⟩ := e6 p (ord p) (hord p hp)
        have ha1 : ops[ord p]? = some o := by simpa using a1
        have ho : opAt p = o := by show (ops[ord p]?).getD default = o; rw [ha1]; rfl
        have hg : gd p = gd0 := by show (guardT ops.toList (opAt p).guard).getD none = gd0; rw [ho, a3]; rfl
        have hp : pre p = pre0 := by show (pres[ord p]?).getD 0 = pre0; rw [a2]; rfl
        rw [ho, hg, hp]
        exact ⟨ha1, a2, a3, a4, a5⟩
      have hinj : ∀ p q, p < ops.size → q < ops.size → ord p = ord q → p = q := fun p q hp hq he => hnd p q (ord p) (hord p hp) (by rw [he]; exact hord q hq)
      have hsurj : ∀ i, i < ops.size → ∃ p, p < ops.size ∧ ord p = i := fun i hi => by
        have h1 : Nat.testBit (maskOf is 0) i = true := by
          rw [hmask]
          show Nat.testBit (2 ^ ops.toList.length - 1) i = true
          rw [Nat.testBit_two_pow_sub_one]; simpa using hi
        rcases maskOf_mem h1 with h2 | h2
        · simp at h2
        · obtain ⟨p, hp⟩ := List.getElem?_of_mem h2
          have hpl : p < is.length := (List.getElem?_eq_some_iff.1 hp).1
          refine ⟨p, by omega, ?_⟩
          show (is[p]?).getD 0 = i
          rw [hp]; rfl
      have hinfo : ∀ p, p < ops.size → inf[p]? = some ⟨ord p, pre p, (opAt p).dst, looks ops.toList (opAt p)⟩ := fun p hp => by
        obtain ⟨o, m, a1, a2, a3⟩ := infos_get hinf p (ord p) (hord p hp)
        obtain ⟨b1, b2, _⟩ := hall p hp
        have ha1 : ops[ord p]? = some o := by simpa using a1
        rw [b1] at ha1; cases ha1
        rw [b2] at a2; cases a2
        exact a3
      have hpair : ∀ p q, p < q → q < ops.size → (∀ d, (opAt p).dst = some d → (opAt q).dst ≠ some d) ∧
          ((pre q).testBit (ord p) = true ∨ ((∀ d, (opAt p).dst = some d → d ∉ looks ops.toList (opAt q)) ∧ ∀ d, (opAt q).dst = some d → d ∉ looks ops.toList (opAt p))) := fun p q hpq hq => by
        have := pairsOk_get c5 p q _ _ hpq (hinfo p (by omega)) (hinfo q hq)
        unfold pairOk at this
        simp only [Bool.and_eq_true, Bool.not_eq_true', Bool.or_eq_true] at this
        obtain ⟨d1, d2⟩ := this
        refine ⟨fun d hd hd' => ?_, d2.imp (fun h => h) fun h => ⟨fun d hd hm => ?_, fun d hd hm => ?_⟩⟩
        · rw [hd, hd'] at d1
          have : Nat.beq d d = false := d1
          rw [Nat.beq_refl] at this; cases this
        · have := h.1
          rw [hd, hasN_of hm] at this; cases this
        · have := h.2
          rw [hd, hasN_of hm] at this; cases this
      have hdst : ∀ q p, q < ops.size → p < ops.size → q ≠ p → ∀ d, (opAt q).dst = some d → (opAt p).dst ≠ some d := fun q p hq hp hne d hd hd' => by
        rcases Nat.lt_or_gt_of_ne hne with hlt | hlt
        · exact (hpair q p hlt hp).1 d hd hd'
        · exact (hpair p q hlt hq).1 d hd' hd
      have hreads : ∀ q p, q < ops.size → p < ops.size → q ≠ p → ∀ d, (opAt q).dst = some d → (Operand.tmp d ∈ (opAt p).op.operands ∨ ∃ w, gd p = some (d, w)) → (q < p ∧ (pre p).testBit (ord q) = true) ∨ (p < q ∧ (pre q).testBit (ord p) = true) := fun q p hq hp hne d hd hr => by
        have hl := looks_mem (hall p hp).2.2.1 hr
        rcases Nat.lt_or_gt_of_ne hne with hlt | hlt
        · rcases (hpair q p hlt hp).2 with h | h
          · exact .inl ⟨hlt, h⟩
          · exact absurd hl (h.1 d hd)
        · rcases (hpair p q hlt hq).2 with h | h
          · exact .inr ⟨hlt, h⟩
          · exact absurd hl (h.2 d hd)
      have hgrow : ∀ p, p ≤ ops.size → Grow (SS 0) (SS p) := by
        intro p
        induction p with
        | zero => intro _; exact Grow.refl _
        | succ p ih => intro hp; exact (ih (by omega)).trans (hall p (by omega)).2.2.2.2.grow
      rw [hlen] at e4 e5
      have hG : Grow st sf := by rw [← e2, ← e5]; exact hgrow _ (Nat.le_refl _)
      have hoff : ∀ (p : Pth), (∀ d, d ∈ (is.map (compDO P n ops.toList pres (compRegion P g n ops.toList ops.toList))).map (·.dst) → d ≠ some p) → ∀ k, k ≤ ops.size → TM k p = tm p := by
        intro p hp k
        induction k with
        | zero => intro _; rw [e1]
        | succ k ih =>
          intro hk
          obtain ⟨o, gd0, pre0, a1, a2, a3, a4, a5, a6⟩ := e6 k (ord k) (hord k hk)
          have ha1 : ops[ord k]? = some o := by simpa using a1
          have hop : opAt k = o := Option.some.inj ((hall k hk).1.symm.trans ha1)
          have hmem : o.dst.map pathOf ∈ (is.map (compDO P n ops.toList pres (compRegion P g n ops.toList ops.toList))).map (·.dst) := by
            rw [← a6, List.map_map]
            exact List.mem_map.2 ⟨ord k, List.mem_of_getElem? (hord k hk), rfl⟩
          rw [a5.off (hp _ hmem)]
          exact ih (by omega)
      refine ⟨tf, sf, hK, fun p hp => by rw [← e4]; exact hoff p hp _ (Nat.le_refl _), hG, fun σ a w lim hf hg hr hfree hlim hn Q hQ Qx hx => ?_⟩
      have hwf : WfS (SS 0) := by rw [e2]; exact hr.wf
      have Rn : Run P g n ops.size opAt gd TM SS T (fun p q => q < ops.size ∧ (pre p).testBit (ord q) = true) := Run.imp (fun p q hq h => ⟨hq, h⟩) <| run_of (n0 := st.next) (by rw [e2]) hwf e3 (fun p hp => (hall p hp).2.2.2.2) hdst hreads (fun p hp => (hall p hp).2.2.2.1)
      have hback : ∀ p, p < ops.size → ∀ e, e ∈ (opAt p).after → Region.binds .any e = true → e.on < ord p := fun p hp e he hb => by
        have := backOk_get c4 (ord p) (opAt p) (by simpa using (hall p hp).1) e he (by rw [← binds_any]; exact hb)
        omega
      have hpresG := presOf_get ops.toList [] ops.toList (fun k => by simp) (fun i m h => by simp at h)
      rw [hpres] at hpresG
      have hpre : ∀ (S : Nat → Prop), (∀ q, q < ops.size → S q → ∀ r, (r < ops.size ∧ (pre q).testBit (ord r) = true) → S r) → ∀ p, p < ops.size → (∀ e, e ∈ (opAt p).after → Region.binds .any e = true → ∃ q, q < ops.size ∧ ord q = e.on ∧ S q) → ∀ r, (r < ops.size ∧ (pre p).testBit (ord r) = true) → S r := by
        intro S hcl p hp he r ⟨hr1, hr2⟩
        obtain ⟨o, a1, a2⟩ := hpresG (ord p) (pre p) (hall p hp).2.1
        have : o = opAt p := by
          have h1 : ops[ord p]? = some o := by simpa using a1
          rw [(hall p hp).1] at h1; cases h1; rfl
        subst this
        obtain ⟨e, b1, b2, m, b3, b4⟩ := a2 (ord r) hr2
        obtain ⟨q, q1, q2, q3⟩ := he e b1 (by rw [binds_any]; exact b2)
        rcases b4 with b4 | b4
        · have : r = q := hinj r q hr1 q1 (by rw [q2]; exact b4)
          rw [this]; exact q3
        · refine hcl q q1 q3 r ⟨hr1, ?_⟩
          rw [← q2, (hall q q1).2.1] at b3
          cases b3; exact b4
      refine wp_region_any hm ?_
      have hr' : RelH σ st { w with drawn := w.drawn + 1 } := hr.heap rfl
      have hno : ∀ q, ¬ (Array.replicate ops.size false).getD (ord q) false = true := fun q h => by
        rw [Array.getD_eq_getD_getElem?, Array.getElem?_replicate] at h
        split at h <;> simp at h
      have hcut0 : ∀ id k, k ≤ ops.size → Cut SS ops.size (fun q => (Array.replicate ops.size false).getD (ord q) false = true) id k → (SS k).heap.get id = st.heap.get id := fun id k hk hc => by
        have h0 : Cut SS ops.size (fun q => (Array.replicate ops.size false).getD (ord q) false = true) id 0 := ⟨fun j hj => absurd hj (by omega), fun j _ _ _ h => absurd h (hno j)⟩
        rw [← e2]; exact cut_eq hk (Nat.zero_le _) hc h0
      have I0 : DInv ops.size a.tmps.size opAt TM SS sf.low σ { w with drawn := w.drawn + 1 } (fun q => (Array.replicate ops.size false).getD (ord q) false = true) σ a { w with drawn := w.drawn + 1 } := by
        refine ⟨fun t p _ hS _ => absurd hS (hno p), fun t _ => by rw [e1]; exact hf t, rfl, Map.le.refl σ, fun _ _ => rfl, fun id k b hk hc hb => ?_, ?_, Nat.le_refl _, rfl, rfl, rfl, fun _ => rfl, fun _ _ _ => rfl, ?_⟩
        · rw [hcut0 id k hk hc] at hb; exact hr'.blk id b hb
        · intro id id' k k' b b' x y hk hk' hc hc' hb hb' hne hown hx hy
          rw [hcut0 id k hk hc] at hb
          rw [hcut0 id' k' hk' hc'] at hb'
          exact hr'.inj id id' b b' x y hb hb' hne hown hx hy
        · intro id k b x hid hk hc hb hx
          rw [hcut0 id k hk hc] at hb
          have := hr'.lt id b hb
          rw [e2] at hid; omega
      refine drawn_any Rn rfl (fun p hp => (hall p hp).1) hsurj hinj (fun p hp => (hall p hp).2.2.1) hback hpre hn (lo := sf.low) (by rw [e5]; exact Nat.le_refl _) (lim := lim) (by rw [e2]; exact hfree) (by rw [e5]; exact hlim) hg (D := a.defers) ?_ ops.size _ σ a _ (by simp) ?_ ?_ I0 rfl
      · intro σ' a' w' I hd
        refine hx a' w' (hQ σ' a' w' ?_ ?_ I.sz hd)
        · have hcN : ∀ id, Cut SS ops.size (fun _ => True) id ops.size := fun id => ⟨fun _ _ _ => trivial, fun j h1 h2 => absurd h2 (by omega)⟩
          have hget : ∀ id, (SS ops.size).heap.get id = sf.heap.get id := fun id => by rw [e5]
          refine ⟨I.le, fun id hid => I.only id fun p hp _ hr => hid ?_, hG.next, ⟨fun id b hb => I.blk id ops.size b (Nat.le_refl _) (hcN id) (by rw [hget]; exact hb), ?_, fun id b hb => (hG.wf hr.wf).lt hb⟩, I.size, I.os, I.tape, I.output, I.fro, ?_, hG.old, hG.gone, hG.keepOwn, ?_, hG.newOwn hr.wf⟩
          · have h1 := (Rn.grow' (Nat.zero_le p) (Nat.le_of_lt hp)).next
            have h2 := (Rn.grow' (show p + 1 ≤ ops.size from hp) (Nat.le_refl _)).next
            rw [e2] at h1; rw [e5] at h2
            omega
          · intro id id' b b' x y hb hb' hne hown hx hy
            exact I.inj id id' ops.size ops.size b b' x y (Nat.le_refl _) (Nat.le_refl _) (hcN id) (hcN id') (by rw [hget]; exact hb) (by rw [hget]; exact hb') hne hown hx hy
          · intro B hB h
            exact I.frame B hB fun id b x hb => h id b x (by rw [← e2]; exact hb)
          · intro id b x hid hb hx
            rcases I.fresh id ops.size b x (by rw [e2]; exact hid) (Nat.le_refl _) (hcN id) (by rw [hget]; exact hb) hx with h | ⟨j, b0, y, h1, h2⟩
            · exact .inl h
            · exact .inr ⟨j, b0, y, by rw [← e2]; exact h1, h2⟩
        · intro t
          by_cases hex : ∃ p, p < ops.size ∧ (opAt p).dst = some t
          · obtain ⟨p, hp, hd'⟩ := hex
            rw [← e4, Rn.tm_from hp hd' hp (Nat.le_refl _)]
            exact I.tm1 t p hp trivial hd'
          · rw [← e4, Rn.tm_at (Nat.le_refl _) fun q hq hd' => hex ⟨q, hq, hd'⟩]
            exact I.tm0 t fun p hp _ hd' => hex ⟨p, hp, hd'⟩
      · unfold left
        have := List.length_filter_le (fun i => !(Array.replicate ops.size false).getD i true) (List.range ops.size)
        simpa using this
      · intro q hq h; exact absurd h (hno q)
end
end Go.Proofs.YtffaehgicojjmaaDoor.Ev
namespace Go.Proofs.YtffaehgicojjmaaDoor.Ev
set_option linter.unusedVariables false
set_option linter.unusedSimpArgs false

def xe : X → Exit
  | .normal => .normal
  | .exit i => .exit i
  | .ret => .ret
/-- what is shown of a piece of code that came to an end within k -/
def wpL (P : Program) (k : Nat) : Code → (Exit → Act → World → Prop) → Act → World → Prop
  | .loop b, Q, a, w => Code.rounds P b Q k a w
  | c, Q, a, w => c.wp P Q a w
theorem wpL_wp {P : Program} {k : Nat} {c : Code} {Q : Exit → Act → World → Prop} {a : Act} {w : World} (h : wpL P k c Q a w) : c.wp P Q a w := by
  cases c <;> first | exact h | exact wp_loop_rounds k h
/-- the tmps that no region hands on lie nowhere -/
def Inv (L : PM Unit) (tm : PM V) : Prop := ∀ p, marked L p = true → tm.getP p = none
def CodeAt (P : Program) (g n k : Nat) (rec : HC → PM V → St → R) (code : Code) : Prop :=
  ∀ (L : PM Unit) (hc : HC), erase hc = comp P g n code → okHC L hc = true → ∀ tm st x tf sf, Inv L tm → rec hc tm st = .done x tf sf →
    Inv L tf ∧ Does P g n (rho tm) st (rho tf) sf (fun Q a w => ∀ Qx : Exit → Act → World → Prop, (∀ a' w', Q a' w' → Qx (xe x) a' w') → wpL P k code Qx a w)
def CodeOk (P : Program) (g k : Nat) (rec : HC → PM V → St → R) : Prop := ∀ n code, CodeAt P g n k rec code

section
variable {P : Program} {g n : Nat}
theorem Does.imp {tm tf : Ev} {st sf : St} {r r' : (Act → World → Prop) → Act → World → Prop} (h : Does P g n tm st tf sf r) (hr : ∀ Q a w, r Q a w → r' Q a w) : Does P g n tm st tf sf r' :=
  ⟨h.1, fun σ a w lim hf hg hh hfree hlim hn Q hQ => hr Q a w (h.2 σ a w lim hf hg hh hfree hlim hn Q hQ)⟩
theorem Does.same {tm : Ev} {st : St} {r : (Act → World → Prop) → Act → World → Prop} (hr : ∀ (Q : Act → World → Prop) a w, Q a w → r Q a w) : Does P g n tm st tm st r :=
  ⟨Grow.refl st, fun σ a w lim hf hg hh hfree hlim hn Q hQ => hr Q a w (hQ σ a w (Ext.refl hh) hf rfl rfl)⟩
theorem Does.seq {tm tm1 tf : Ev} {st st1 sf : St} {r1 r2 r : (Act → World → Prop) → Act → World → Prop} (h1 : Does P g n tm st tm1 st1 r1) (h2 : Does P g n tm1 st1 tf sf r2)
    (hr : ∀ Q a w, r1 (r2 Q) a w → r Q a w) : Does P g n tm st tf sf r := by
  refine ⟨h1.1.trans h2.1, fun σ a w lim hf hg hh hfree hlim hn Q hQ => hr Q a w ?_⟩
  refine h1.2 σ a w lim hf hg hh hfree (Nat.le_trans h2.1.next hlim) hn (r2 Q) fun σ' a' w' e1 e2 e3 e4 => ?_
  refine h2.2 σ' a' w' lim e2 (hg.mono e1.le) e1.rel (e1.free hfree) hlim (by rw [e3]; exact hn) Q fun σ2 a2 w2 f1 f2 f3 f4 => ?_
  exact hQ σ2 a2 w2 ((e1.weaken h2.1.low).trans f1) f2 (by rw [f3, e3]) (by rw [f4, e4])
theorem rel_opF {σ : Map} {tm : Ev} {a : Act} (hf : RelF σ tm a.tmps) (hg : Globals σ g) {x : Operand} {y : O} (h : compO g x = some y) : RelV σ (evO tm y) (a.eval x) :=
  rel_op' (o := { (default : Oper) with op := .move x }) hf.relR hg h (by simp [Op.operands])
theorem seq2_done {rec : HC → PM V → St → R} {b : HC} {r : R} {x : X} {tf : PM V} {sf : St} (h : seq2 rec b r = .done x tf sf) :
    (∃ tm1 st1, r = .done .normal tm1 st1 ∧ rec b tm1 st1 = .done x tf sf) ∨ (r = .done x tf sf ∧ x ≠ .normal) := by
  cases r with
  | fail w => cases h
  | done x1 tm1 st1 =>
    cases x1 with
    | normal => exact .inl ⟨tm1, st1, rfl, h⟩
    | exit i => cases h; exact .inr ⟨rfl, by simp⟩
    | ret => cases h; exact .inr ⟨rfl, by simp⟩
theorem then_exit {K : Act → World → Prop} {Q : Exit → Act → World → Prop} {x : X} (hx : x ≠ .normal) {a : Act} {w : World} (h : Q (xe x) a w) : Exit.then K Q (xe x) a w := by
  cases x with
  | normal => exact absurd rfl hx
  | exit i => exact h
  | ret => exact h

theorem erase_seq {h : HC} {A B : CC} (e : erase h = .seq A B) : ∃ a b, h = .seq a b ∧ erase a = A ∧ erase b = B := by
  cases h <;> simp [erase] at e
  exact ⟨_, _, rfl, e.1, e.2⟩
theorem erase_cond {h : HC} {y : O} {A B : CC} (e : erase h = .cond y A B) : ∃ a b, h = .cond y a b ∧ erase a = A ∧ erase b = B := by
  cases h <;> simp [erase] at e
  obtain ⟨rfl, h1, h2⟩ := e
  exact ⟨_, _, rfl, h1, h2⟩
theorem erase_loop {h : HC} {A : CC} (e : erase h = .loop A) : ∃ a, h = .loop a ∧ erase a = A := by
  cases h <;> simp [erase] at e
  exact ⟨_, rfl, e⟩
theorem erase_block {h : HC} {id : Nat} {A : CC} (e : erase h = .block id A) : ∃ a, h = .block id a ∧ erase a = A := by
  cases h <;> simp [erase] at e
  obtain ⟨rfl, h1⟩ := e
  exact ⟨_, rfl, h1⟩
theorem erase_region {h : HC} {ops : List CO} (e : erase h = .region ops) : ∃ outs f ok, h = .reg ops outs f ok := by
  cases h <;> simp [erase] at e
  subst e
  exact ⟨_, _, _, rfl⟩
theorem erase_drawn {h : HC} {ops : List DO} (e : erase h = .drawn ops) : ∃ outs f ok, h = .drw ops outs f ok := by
  cases h <;> simp [erase] at e
  subst e
  exact ⟨_, _, _, rfl⟩
theorem erase_skip {h : HC} (e : erase h = .skip) : h = .skip := by cases h <;> simp [erase] at e; rfl
theorem erase_ret {h : HC} (e : erase h = .ret) : h = .ret := by cases h <;> simp [erase] at e; rfl
theorem erase_exit {h : HC} {id : Nat} (e : erase h = .exit id) : h = .exit id := by cases h <;> simp [erase] at e; subst e; rfl
theorem erase_bad {h : HC} {w : Nat} (e : erase h = .bad w) : h = .bad w := by cases h <;> simp [erase] at e; subst e; rfl
/-- what a region hands on -/
theorem hand_on {L : PM Unit} {outs : List Pth} {dsts : List (Option Pth)} {tm : PM V} {ρ : Ev} {K : PM V → R} {x : X} {tz : PM V} {sz : St} (hI : Inv L tm) (ho : outsOk L outs = true) (hd : dstsOk L outs dsts = true)
    (hoff : ∀ p, (∀ d, d ∈ dsts → d ≠ some p) → ρ p = rho tm p) (h : setL outs (outsOf outs ρ) tm K = .done x tz sz) :
    ∃ tf, K tf = .done x tz sz ∧ Inv L tf ∧ ∀ (σ : Map) (tmps : Array Value), RelF σ ρ tmps → RelF σ (rho tf) tmps := by
  obtain ⟨tf, h1, h2, h3⟩ := setL_done (ρ := ρ) (K := K) outs tm
  rw [h1] at h
  refine ⟨tf, h, fun p hp => ?_, fun σ tmps hf t => ?_⟩
  · rw [h3 p fun hm => ?_]
    · exact hI p hp
    · have := List.all_eq_true.1 ho p hm
      rw [hp] at this; cases this
  · have h4 := hf t
    show RelV σ (getD' (tf.getP (pathOf t))) _
    by_cases hm : pathOf t ∈ outs
    · rw [h2 _ hm]; exact h4
    · rw [h3 _ hm]
      by_cases hex : ∃ d, d ∈ dsts ∧ d = some (pathOf t)
      · obtain ⟨d, hd1, rfl⟩ := hex
        rcases dstsOk_of hd hd1 with h5 | h5
        · rw [hI _ h5]; exact .any _
        · exact absurd h5 hm
      · have h6 : ρ (pathOf t) = rho tm (pathOf t) := hoff _ fun d hd1 he => hex ⟨d, hd1, he⟩
        have h7 : RelV σ (ρ (pathOf t)) (tmps.getD t undef) := h4
        rw [h6] at h7; exact h7

theorem code_step {call : CallK} {k : Nat} {rec : HC → PM V → St → R} (hm : P.follows .mixedOrders = true) (hcall : CallOk P g call) (IH : CodeOk P g k rec) : ∀ code : Code, CodeAt P g n (k + 1) (step call rec) code
  | .skip => fun L hc e ok tm st x tf sf hI h => by obtain rfl := erase_skip e; cases h; exact ⟨hI, Does.same fun Q a w hq Qx hx => wp_skip (hx a w hq)⟩
  | .label l => fun L hc e ok tm st x tf sf hI h => by obtain rfl := erase_skip e; cases h; exact ⟨hI, Does.same fun Q a w hq Qx hx => wp_label (hx a w hq)⟩
  | .exit id => fun L hc e ok tm st x tf sf hI h => by obtain rfl := erase_exit e; cases h; exact ⟨hI, Does.same fun Q a w hq Qx hx => wp_exit (hx a w hq)⟩
  | .ret => fun L hc e ok tm st x tf sf hI h => by obtain rfl := erase_ret e; cases h; exact ⟨hI, Does.same fun Q a w hq Qx hx => wp_ret (hx a w hq)⟩
  | .goto l => fun L hc e ok tm st x tf sf hI h => by obtain rfl := erase_bad e; cases h
  | .refuse l => fun L hc e ok tm st x tf sf hI h => by obtain rfl := erase_bad e; cases h
  | .rangeFunc f ps a b => fun L hc e ok tm st x tf sf hI h => by obtain rfl := erase_bad e; cases h
  | .region id ops false => fun L hc e ok tm st x tf sf hI h => by
    obtain ⟨outs, f, hok, rfl⟩ := erase_region e
    have h0 : f call (rho tm) st (fun l st => setL outs l tm fun tm => .done .normal tm st) = .done x tf sf := h
    rw [← hok] at h0
    simp only [okHC, Bool.and_eq_true] at ok
    obtain ⟨ρ, s1, h1, hoff, h2⟩ := seq_region (ops := ops) hcall ops.toList 0 (fun i => by simp) h0
    obtain ⟨t1, h3, h4, h5⟩ := hand_on hI ok.1 ok.2 hoff h1
    cases h3
    refine ⟨h4, h2.1, fun σ a w lim hf hg hh hfree hlim hn Q hQ Qx hx => wp_region ?_⟩
    have := h2.2 σ a w lim hf hg hh hfree hlim hn Q (fun σ' a' w' q1 q2 q3 q4 => hQ σ' a' w' q1 (h5 _ _ q2) q3 q4) Qx hx
    rw [List.range_eq_range']
    simpa using this
  | .region id ops true => fun L hc e ok tm st x tf sf hI h => by
    obtain ⟨outs, f, hok, rfl⟩ := erase_drawn e
    have h0 : f call (rho tm) st (fun l st => setL outs l tm fun tm => .done .normal tm st) = .done x tf sf := h
    rw [← hok] at h0
    simp only [okHC, Bool.and_eq_true] at ok
    obtain ⟨ρ, s1, h1, hoff, h2⟩ := drawn_region hcall hm (id := id) h0
    obtain ⟨t1, h3, h4, h5⟩ := hand_on hI ok.1 ok.2 hoff h1
    cases h3
    exact ⟨h4, h2.1, fun σ a w lim hf hg hh hfree hlim hn Q hQ Qx hx => h2.2 σ a w lim hf hg hh hfree hlim hn Q (fun σ' a' w' q1 q2 q3 q4 => hQ σ' a' w' q1 (h5 _ _ q2) q3 q4) Qx hx⟩
  | .seq a b => fun L hc e ok tm st x tf sf hI h => by
    obtain ⟨a', b', rfl, ea, eb⟩ := erase_seq e
    simp only [okHC, Bool.and_eq_true] at ok
    rcases seq2_done (show seq2 rec b' (rec a' tm st) = .done x tf sf from h) with ⟨tm1, st1, h1, h2⟩ | ⟨h1, h2⟩
    · obtain ⟨i1, d1⟩ := IH n a L a' ea ok.1 tm st .normal tm1 st1 hI h1
      obtain ⟨i2, d2⟩ := IH n b L b' eb ok.2 tm1 st1 x tf sf i1 h2
      refine ⟨i2, d1.seq d2 fun Q ac w hq Qx hx => wp_seq ?_⟩
      exact wpL_wp (hq _ fun a' w' hr => wpL_wp (hr Qx hx))
    · obtain ⟨i1, d1⟩ := IH n a L a' ea ok.1 tm st x tf sf hI h1
      refine ⟨i1, d1.imp fun Q ac w hq Qx hx => wp_seq ?_⟩
      exact wpL_wp (hq _ fun a' w' hr => then_exit h2 (hx a' w' hr))
  | .loop b => fun L hc e ok tm st x tf sf hI h => by
    obtain ⟨b', rfl, eb⟩ := erase_loop e
    simp only [okHC] at ok
    rcases seq2_done (show seq2 rec (.loop b') (rec b' tm st) = .done x tf sf from h) with ⟨tm1, st1, h1, h2⟩ | ⟨h1, h2⟩
    · obtain ⟨i1, d1⟩ := IH n b L b' eb ok tm st .normal tm1 st1 hI h1
      obtain ⟨i2, d2⟩ := IH n (.loop b) L (.loop b') e (by simpa only [okHC] using ok) tm1 st1 x tf sf i1 h2
      refine ⟨i2, d1.seq d2 fun Q ac w hq Qx hx => ?_⟩
      show Code.wp P b (Exit.then (Code.rounds P b Qx k) Qx) ac w
      exact wpL_wp (hq _ fun a' w' hr => hr Qx hx)
    · obtain ⟨i1, d1⟩ := IH n b L b' eb ok tm st x tf sf hI h1
      refine ⟨i1, d1.imp fun Q ac w hq Qx hx => ?_⟩
      show Code.wp P b (Exit.then (Code.rounds P b Qx k) Qx) ac w
      exact wpL_wp (hq _ fun a' w' hr => then_exit h2 (hx a' w' hr))
  | .block id b => fun L hc e ok tm st x tf sf hI h => by
    obtain ⟨b', rfl, eb⟩ := erase_block e
    simp only [okHC] at ok
    have h' : block2 id (rec b' tm st) = .done x tf sf := h
    cases hr : rec b' tm st with
    | fail w => rw [hr] at h'; cases h'
    | done x1 tm1 st1 =>
      rw [hr] at h'
      obtain ⟨i1, main⟩ := IH n b L b' eb ok tm st x1 tm1 st1 hI hr
      cases x1 with
      | normal =>
        cases h'
        exact ⟨i1, main.imp fun Q ac w hq Qx hx => wp_block (wpL_wp (hq _ fun a' w' hr => hx a' w' hr))⟩
      | ret =>
        cases h'
        exact ⟨i1, main.imp fun Q ac w hq Qx hx => wp_block (wpL_wp (hq _ fun a' w' hr => hx a' w' hr))⟩
      | exit j =>
        have h2 : iteB (Nat.beq j id) (R.done .normal tm1 st1) (R.done (.exit j) tm1 st1) = R.done x tf sf := h'
        rw [iteB_eq] at h2
        split at h2
        · rename_i hj
          cases h2
          obtain rfl := beq_of hj
          exact ⟨i1, main.imp fun Q ac w hq Qx hx => wp_block (wpL_wp (hq _ fun a' w' hr => by show Exit.inBlock j Qx (.exit j) a' w'; simp only [Exit.inBlock, if_true]; exact hx a' w' hr))⟩
        · rename_i hj
          cases h2
          have hne : ¬ j = id := fun he => hj (by rw [he]; exact Nat.beq_refl _)
          exact ⟨i1, main.imp fun Q ac w hq Qx hx => wp_block (wpL_wp (hq _ fun a' w' hr => by show Exit.inBlock id Qx (.exit j) a' w'; simp only [Exit.inBlock, if_neg hne]; exact hx a' w' hr))⟩
  | .scope b => fun L hc e ok tm st x tf sf hI h => by
    obtain ⟨i1, d1⟩ := code_step hm hcall IH b L hc e ok tm st x tf sf hI h
    refine ⟨i1, d1.imp fun Q ac w hq Qx hx => wp_scope_straight (wpL_wp (hq _ fun a' w' hr => ?_))⟩
    cases x <;> exact hx a' w' hr
  | .cond c a b => fun L hc e ok tm st x tf sf hI h => by
    cases hcc : compO g c with
    | none =>
      have : comp P g n (.cond c a b) = .bad 110 := by simp only [comp, hcc]
      rw [this] at e
      obtain rfl := erase_bad e
      cases h
    | some y =>
      have : comp P g n (.cond c a b) = .cond y (comp P g n a) (comp P g n b) := by simp only [comp, hcc]
      rw [this] at e
      obtain ⟨a', b', rfl, ea, eb⟩ := erase_cond e
      simp only [okHC, Bool.and_eq_true] at ok
      obtain ⟨t, h1, h2⟩ := asBool_done (show asBool' 95 (evO (rho tm) y) (fun c => iteB c (rec a' tm st) (rec b' tm st)) = .done x tf sf from h)
      have main : Inv L tf ∧ Does P g n (rho tm) st (rho tf) sf (fun Q ac w => ∀ Qx : Exit → Act → World → Prop, (∀ a' w', Q a' w' → Qx (xe x) a' w') → (if t then a else b).wp P Qx ac w) := by
        cases t with
        | true =>
          obtain ⟨i1, d1⟩ := IH n a L a' ea ok.1 tm st x tf sf hI h2
          exact ⟨i1, d1.imp fun Q ac w hq Qx hx => wpL_wp (hq Qx hx)⟩
        | false =>
          obtain ⟨i1, d1⟩ := IH n b L b' eb ok.2 tm st x tf sf hI h2
          exact ⟨i1, d1.imp fun Q ac w hq Qx hx => wpL_wp (hq Qx hx)⟩
      refine ⟨main.1, main.2.1, fun σ ac w lim hf hg hh hfree hlim hn Q hQ Qx hx => ?_⟩
      have r := rel_opF hf hg hcc
      rw [h1] at r
      have he : ac.eval c = .bool t := by
        cases r with
        | sc r => generalize ac.eval c = v at r; cases r; rfl
      exact wp_cond he (main.2.2 σ ac w lim hf hg hh hfree hlim hn Q hQ Qx hx)
end
end Go.Proofs.YtffaehgicojjmaaDoor.Ev
namespace Go.Proofs.YtffaehgicojjmaaDoor.Ev
set_option linter.unusedVariables false
set_option linter.unusedSimpArgs false
section
variable {P : Program} {g : Nat}

/-- the arguments, laid down -/
theorem setL_args {K : PM V → R} {m : PM Unit} : ∀ (ps : List Pth) (k : Nat) (l : List V) (tm : PM V), argsOk m ps k = true → ∃ tf, setL ps l tm K = K tf ∧ (∀ p, p ∉ ps → tf.getP p = tm.getP p) ∧ (∀ p, p ∈ ps → marked m p = false ∧ ∃ t, k ≤ t ∧ p = pathOf t) ∧
      ∀ t, k ≤ t → tf.getP (pathOf t) = tm.getP (pathOf t) ∨ ∃ v, l[t - k]? = some v ∧ tf.getP (pathOf t) = some v
  | [], k, l, tm, _ => ⟨tm, rfl, fun _ _ => rfl, (fun p h => by cases h), fun t _ => .inl rfl⟩
  | p :: r, k, l, tm, hok => by
    simp only [argsOk, Bool.and_eq_true, Bool.not_eq_true'] at hok
    obtain ⟨hp, hm, hr⟩ := hok
    obtain rfl := pthEq_of hp
    cases l with
    | nil =>
      refine ⟨tm, rfl, fun _ _ => rfl, fun q hq => ?_, fun t _ => .inl rfl⟩
      obtain ⟨_, _, _, h3, _⟩ := setL_args (K := K) r (k + 1) [] tm hr
      rcases List.mem_cons.1 hq with rfl | hq
      · exact ⟨hm, k, Nat.le_refl _, rfl⟩
      · obtain ⟨h4, t, h5, h6⟩ := h3 q hq
        exact ⟨h4, t, by omega, h6⟩
    | cons v l =>
      obtain ⟨tf, h1, h2, h3, h4⟩ := setL_args (K := K) r (k + 1) l (PM.put (pathOf k) tm (some v)) hr
      refine ⟨tf, ?_, fun q hq => ?_, fun q hq => ?_, fun t ht => ?_⟩
      · show forceV (fun v => tsetP (pathOf k) tm (some v) fun tm => setL r l tm K) v = K tf
        rw [forceV_eq, tsetP_eq, setP_put]; exact h1
      · rw [h2 q fun h => hq (List.mem_cons_of_mem _ h), getP_put_other _ q tm _ fun e => hq (by simp [e])]
      · rcases List.mem_cons.1 hq with rfl | hq
        · exact ⟨hm, k, Nat.le_refl _, rfl⟩
        · obtain ⟨h4, t, h5, h6⟩ := h3 q hq
          exact ⟨h4, t, by omega, h6⟩
      · by_cases hk : t = k
        · subst hk
          have hno : pathOf t ∉ r := fun h => by
            obtain ⟨_, t', h5, h6⟩ := h3 _ h
            have := pathOf_inj h6; omega
          exact .inr ⟨v, by simp, by rw [h2 _ hno, getP_put_same]⟩
        · rcases h4 t (by omega) with h5 | ⟨u, h5, h6⟩
          · exact .inl (by rw [h5, getP_put_other _ _ tm _ fun e => hk (pathOf_inj e)])
          · refine .inr ⟨u, ?_, h6⟩
            have : t - k = (t - (k + 1)) + 1 := by omega
            rw [this]; simpa using h5
/-- the frame at a function's entry -/
theorem rel_entry {σ : Map} {args : List V} {args' : Array Value} {tf : PM V} (h : All2 (RelV σ) args args'.toList) (m : Nat) (ht : ∀ t, tf.getP (pathOf t) = none ∨ ∃ v, args[t]? = some v ∧ tf.getP (pathOf t) = some v) : RelF σ (rho tf) (args' ++ Array.replicate m undef) := by
  intro t
  show RelV σ (getD' (tf.getP (pathOf t))) _
  rcases ht t with h1 | ⟨v, h1, h2⟩
  · rw [h1]; exact .any _
  · rw [h2]
    obtain ⟨u, hv, hr⟩ := h.get t h1
    have hlt : t < args'.size := by have := (List.getElem?_eq_some_iff.1 hv).1; simpa using this
    rw [Array.getD_eq_getD_getElem?, Array.getElem?_append_left hlt]
    have : args'[t]? = some u := by simpa using hv
    rw [this]
    exact hr
/-- one result -/
def resVar (tmps : Array Value) : ResultVar → Sem Value
  | .tmp t => pure (tmps.getD t undef)
  | .cell a t => do loadVar t (← asAddr (tmps.getD a undef))
theorem res_done {tm : PM V} {st : St} : ∀ {l : List ResultVar} {rs : List RV} {K : List V → R} {x : X} {tf : PM V} {sf : St}, compRV P l = some rs → resK tm st rs K = .done x tf sf →
    ∃ vs, K vs = .done x tf sf ∧ ∀ (σ : Map) (tmps : Array Value) (w : World), RelF σ (rho tm) tmps → RelH σ st w → ∃ vs', All2 (RelV σ) vs vs' ∧ (l.mapM (resVar tmps)).run P w = .ok vs' w
  | [], rs, K, x, tf, sf, hc, h => by
    simp [compRV] at hc; subst hc
    exact ⟨[], h, fun σ tmps w hf hh => ⟨[], .nil, by simp⟩⟩
  | .tmp t :: l, rs, K, x, tf, sf, hc, h => by
    simp only [compRV, Option.map_eq_some_iff] at hc
    obtain ⟨rs', hc, rfl⟩ := hc
    have h1 : resK tm st rs' (fun l => K (getD' (tm.getP (pathOf t)) :: l)) = .done x tf sf := h
    obtain ⟨vs, h2, h3⟩ := res_done hc h1
    refine ⟨_, h2, fun σ tmps w hf hh => ?_⟩
    obtain ⟨vs', h4, h5⟩ := h3 σ tmps w hf hh
    refine ⟨_, .cons (hf t) h4, ?_⟩
    simp only [List.mapM_cons, resVar, Sem.run_bind, Sem.run_pure, Result.andThen_ok, h5]
  | .cell ad t :: l, rs, K, x, tf, sf, hc, h => by
    simp only [compRV] at hc
    split at hc
    · rename_i n e1 e2
      simp only [Option.map_eq_some_iff] at hc
      obtain ⟨rs', hc, rfl⟩ := hc
      obtain ⟨id, off, hz, h1⟩ := asPtr_done (show asPtr 91 (getD' (tm.getP (pathOf ad))) (fun id off => loadNK st n id off fun v => resK tm st rs' fun l => K (v :: l)) = .done x tf sf from h)
      obtain ⟨b, hb, h2⟩ := opt_done (show Option.rec (motive := fun _ => R) (.fail 8) (loadNB n off fun v => resK tm st rs' fun l => K (v :: l)) (st.heap.get id) = _ from h1)
      have h3 : readK (.fail 6) b n off (fun l => resK tm st rs' fun r => K (.agg l :: r)) = .done x tf sf := h2
      rw [readK_eq] at h3
      cases hs : cellsAt b off n with
      | none => rw [hs] at h3; cases h3
      | some cl =>
        rw [hs] at h3
        obtain ⟨vs, h4, h5⟩ := res_done hc h3
        refine ⟨_, h4, fun σ tmps w hf hh => ?_⟩
        obtain ⟨vs', h6, h7⟩ := h5 σ tmps w hf hh
        have r : RelV σ (getD' (tm.getP (pathOf ad))) (tmps.getD ad undef) := hf ad
        rw [hz] at r
        cases r with
        | sc r =>
          generalize hv : tmps.getD ad undef = v at r
          cases r with
          | ptr hid =>
            rename_i B p c
            obtain ⟨us, hl, hall, hcc⟩ := relB_row (hh.blk id b hb) hid hs
            refine ⟨.agg us.toArray :: vs', .cons (.agg (by simpa using hall)) h6, ?_⟩
            have hrun := run_loadCells_list (P := P) w ⟨B, p + off, none⟩ us hcc
            rw [hl] at hrun
            simp only [List.mapM_cons, resVar, hv, asAddr, Sem.run_bind, Sem.run_pure, Result.andThen_ok, loadVar, run_isAggT e1, run_sizeT e2, hrun, h7, if_true]
    · rename_i n e1 e2
      simp only [Option.map_eq_some_iff] at hc
      obtain ⟨rs', hc, rfl⟩ := hc
      obtain ⟨id, off, hz, h1⟩ := asPtr_done (show asPtr 91 (getD' (tm.getP (pathOf ad))) (fun id off => load1K st id off fun v => resK tm st rs' fun l => K (v :: l)) = .done x tf sf from h)
      obtain ⟨b, hb, h2⟩ := opt_done (show Option.rec (motive := fun _ => R) (.fail 8) (load1B off fun v => resK tm st rs' fun l => K (v :: l)) (st.heap.get id) = _ from h1)
      obtain ⟨s, hs, h3⟩ := opt_done (show Option.rec (motive := fun _ => R) (.fail 7) (fun s => resK tm st rs' fun r => K (.sc s :: r)) (b.cell off) = _ from h2)
      obtain ⟨vs, h4, h5⟩ := res_done hc h3
      refine ⟨_, h4, fun σ tmps w hf hh => ?_⟩
      obtain ⟨vs', h6, h7⟩ := h5 σ tmps w hf hh
      have r : RelV σ (getD' (tm.getP (pathOf ad))) (tmps.getD ad undef) := hf ad
      rw [hz] at r
      cases r with
      | sc r =>
        generalize hv : tmps.getD ad undef = v at r
        cases r with
        | ptr hid =>
          rename_i B p c
          obtain ⟨us, hl, hall, hcc⟩ := relB_row (o := off) (n := 1) (l := [s]) (hh.blk id b hb) hid (by simp [cellsAt, hs])
          cases hall with
          | cons q1 q2 =>
            rename_i u m
            cases q2
            have hcell := hcc 0 u rfl
            rw [add_addr] at hcell
            refine ⟨u :: vs', .cons (.sc q1) h6, ?_⟩
            simp at hcell
            simp [List.mapM_cons, resVar, hv, asAddr, loadVar, run_isAggT e1, hcell, h7]
    · cases hc
theorem pack_rel {σ : Map} {v : V} {p : Bool × List S} {u : Value} (h : pack v = some p) (hr : RelV σ v u) : RelT σ p u := by
  cases v with
  | sc s => cases h; cases hr with | sc hr => exact .inr ⟨rfl, s, rfl, hr⟩
  | agg l => cases h; cases hr with | agg hr => exact .inl ⟨rfl, _, rfl, hr⟩
  | tup l => cases h
  | any => cases h
theorem packL_done {K : List (Bool × List S) → R} {x : X} {tf : PM V} {sf : St} : ∀ {l : List V} {K : List (Bool × List S) → R}, packL l K = .done x tf sf → ∃ ps, K ps = .done x tf sf ∧ ∀ (σ : Map) (us : List Value), All2 (RelV σ) l us → All2 (RelT σ) ps us
  | [], K, h => ⟨[], h, fun σ us hr => by cases hr; exact .nil⟩
  | v :: l, K, h => by
    have h' : (match pack v with | some p => packL l fun l => K (p :: l) | none => .fail 91) = R.done x tf sf := h
    cases hp : pack v with
    | none => rw [hp] at h'; cases h'
    | some p =>
      rw [hp] at h'
      obtain ⟨ps, h1, h2⟩ := packL_done (K := fun l => K (p :: l)) h'
      refine ⟨_, h1, fun σ us hr => ?_⟩
      cases hr with
      | cons a b => exact .cons (pack_rel hp a) (h2 σ _ b)
theorem fin_done {K : V → St → R} {st : St} {l : List V} {x : X} {tf : PM V} {sf : St} (h : fin1 K st l = .done x tf sf) :
    ∃ v, K v st = .done x tf sf ∧ ∀ (σ : Map) (us : Array Value), All2 (RelV σ) l us.toList → RelV σ v (if h : us.size = 1 then us[0] else .tuple us) := by
  have other : l.length ≠ 1 → packL l (fun l => K (.tup l) st) = .done x tf sf → ∃ v, K v st = .done x tf sf ∧ ∀ (σ : Map) (us : Array Value), All2 (RelV σ) l us.toList → RelV σ v (if h : us.size = 1 then us[0] else .tuple us) := fun hl hk => by
    obtain ⟨ps, h1, h2⟩ := packL_done (K := fun l => K (.tup l) st) (x := x) (tf := tf) (sf := sf) hk
    refine ⟨_, h1, fun σ us hr => ?_⟩
    have : us.size ≠ 1 := by have := hr.length; simp at this; omega
    rw [dif_neg this]
    exact .tup (h2 σ _ hr)
  match l, h with
  | [], h => exact other (by simp) h
  | [v], h =>
    refine ⟨v, h, fun σ us hr => ?_⟩
    have hl : us.size = 1 := by have := hr.length; simpa using this.symm
    rw [dif_pos hl]
    have := hr.get 0 (a := v) rfl
    obtain ⟨u, hu, hr'⟩ := this
    have hu' : us[0]? = some u := by simpa using hu
    have : us[0] = u := (Array.getElem?_eq_some_iff.1 hu').2
    rw [this]; exact hr'
  | v :: v' :: l, h => exact other (by simp) h
theorem ret_done {rs : List RV} {K : V → St → R} {r : R} {x : X} {tf : PM V} {sf : St} (h : retK rs K r = .done x tf sf) :
    ∃ x1 tm1 st1, r = .done x1 tm1 st1 ∧ (x1 = .normal ∨ x1 = .ret) ∧ resK tm1 st1 rs (fin1 K st1) = .done x tf sf := by
  cases r with
  | fail w => cases h
  | done x1 tm1 st1 =>
    cases x1 with
    | normal => exact ⟨_, _, _, rfl, .inl rfl, h⟩
    | exit i => cases h
    | ret => exact ⟨_, _, _, rfl, .inr rfl, h⟩

theorem call_ok {F : Nat → Option HF} {k : Nat} {rec : HC → PM V → St → R} (hF : ∀ f cf, F f = some cf → okF P g f cf) (IH : CodeOk P g k rec) : CallOk P g (callK F rec) := by
  intro f args st K x tf sf h
  have h' : Option.rec (motive := fun _ => R) (.fail 94) (callF rec args st K) (F f) = .done x tf sf := h
  obtain ⟨hf, hcf, h1⟩ := opt_done h'
  obtain ⟨hcomp, hok⟩ := hF f hf hcf
  unfold okHF at hok
  simp only [Bool.and_eq_true] at hok
  unfold compF at hcomp
  split at hcomp
  · rename_i fn hfn
    split at hcomp
    · cases hcomp
    · rename_i hname
      split at hcomp
      · rename_i b rs hb hrs
        simp only [eraseF, Option.some.injEq, CF.mk.injEq] at hcomp
        obtain ⟨hbody, hres⟩ := hcomp
        subst hres
        have h1' : setL hf.args args .leaf (fun tm => retK hf.results K (rec hf.body tm st)) = .done x tf sf := h1
        obtain ⟨tm0, q1, q2, q3, q4⟩ := setL_args (K := fun tm => retK hf.results K (rec hf.body tm st)) hf.args 0 args .leaf hok.2
        rw [q1] at h1'
        have h2 := h1'
        have hI : Inv (marks hf.locs) tm0 := fun p hp => by
          by_cases hm : p ∈ hf.args
          · rw [(q3 p hm).1] at hp; cases hp
          · rw [q2 p hm]; exact getP_leaf p
        have hent : ∀ t, tm0.getP (pathOf t) = none ∨ ∃ v, args[t]? = some v ∧ tm0.getP (pathOf t) = some v := fun t => by
          rcases q4 t (Nat.zero_le _) with h | h
          · exact .inl (h.trans (getP_leaf _))
          · exact .inr h
        obtain ⟨x1, tm1, st1, h3, hx1, h4⟩ := ret_done h2
        obtain ⟨vs, h5, h6⟩ := res_done hrs h4
        obtain ⟨v, h7, h8⟩ := fin_done h5
        obtain ⟨_, hgrow, hdoes⟩ := IH fn.ntmps b (marks hf.locs) hf.body hbody.symm hok.1 _ st x1 tm1 st1 hI h3
        refine ⟨v, st1, h7, hgrow, ⟨fn, hfn, by simpa using hname, by rw [hb]; rfl⟩, fun σ args' w lim ha hg hh hfree hlim => ?_⟩
        refine calls_of_wp hfn hb (wpL_wp (hdoes σ { tmps := args' ++ Array.replicate (fn.ntmps - args'.size) undef, defers := [] } w lim (rel_entry ha _ hent) hg hh hfree hlim (by simp; omega) (fun a' w' => a'.defers = [] ∧ ∃ v', (results fn a'.tmps).run P w' = .ok v' w' ∧ ∃ v'' σ', Ending.returned v' = .returned v'' ∧ Ext σ σ' st st1 w w' st1.low ∧ RelV σ' v v'') ?_ (bodyPost P fn _) ?_))
        · intro σ' a' w' E hf _ hd
          refine ⟨hd, ?_⟩
          obtain ⟨us, hu1, hu2⟩ := h6 σ' a'.tmps w' hf E.rel
          have hrun : (fn.results.mapM (resVar a'.tmps)).run P w' = .ok us.toArray w' := by
            rw [← Array.toArray_toList (xs := fn.results), List.mapM_toArray]
            simp only [Sem.run_map, hu2]
            rfl
          have hres : (results fn a'.tmps).run P w' = .ok (if h : us.toArray.size = 1 then us.toArray[0] else .tuple us.toArray) w' := by
            have : results fn a'.tmps = (do
              let vs ← fn.results.mapM (resVar a'.tmps)
              pure (if h : vs.size = 1 then vs[0] else .tuple vs)) := by
              unfold results
              congr 2
            rw [this]
            simp only [Sem.run_bind, hrun, Result.andThen_ok, Sem.run_pure]
          exact ⟨_, hres, _, σ', rfl, E, h8 σ' us.toArray (by simpa using hu1)⟩
        · intro a' w' ⟨hd, v', hr, hrest⟩
          rcases hx1 with rfl | rfl
          · exact ⟨hd, v', hr, hrest⟩
          · exact ⟨hd, v', hr, hrest⟩
      · cases hcomp
  · cases hcomp
theorem run_ok {F : Nat → Option HF} (hm : P.follows .mixedOrders = true) (hF : ∀ f cf, F f = some cf → okF P g f cf) : ∀ k, CodeOk P g k (run F k)
  | 0 => fun n code L hc e ok tm st x tf sf hI h => by cases h
  | k + 1 => fun n code => code_step hm (call_ok hF (run_ok hm hF k)) (run_ok hm hF k) code
theorem callK_ok {F : Nat → Option HF} (hm : P.follows .mixedOrders = true) (hF : ∀ f cf, F f = some cf → okF P g f cf) (k : Nat) : CallOk P g (callK F (run F k)) := call_ok hF (run_ok hm hF k)
end
end Go.Proofs.YtffaehgicojjmaaDoor.Ev
namespace Go.Proofs.YtffaehgicojjmaaDoor.Ev
set_option linter.unusedVariables false
set_option linter.unusedSimpArgs false

/-! ### what a listed variable holds, as the evaluator has it -/
abbrev Rd := Option (List S × List (Nat × List S) × Nat)
def rdList (P : Program) (rd : TypeId → DataW Unit → Nat → Rd) : List (TypeId × Nat) → List (DataW Unit) → Nat → Nat → Rd
  | [], [], _, nx => some ([], [], nx)
  | (t, o) :: ts, d :: ds, acc, nx =>
    if o = acc then
      match rd t d nx with
      | some (l, bl, n1) => if l.length = P.cellsOf t then
          match rdList P rd ts ds (acc + l.length) n1 with
          | some (l2, bl2, n2) => some (l ++ l2, bl ++ bl2, n2)
          | none => none
        else none
      | none => none
    else none
  | _, _, _, _ => none
def evRd (P : Program) : Nat → TypeId → DataW Unit → Nat → Rd
  | 0, _, _, _ => none
  | f + 1, t, d, nx => match P.underlying t, d with
    | some .bool, .lit (.bool b) => some ([.bool b], [], nx)
    | some (.int _), .lit (.int k n) => some ([.int k n], [], nx)
    | some .string, .lit (.string s) => some ([.lit (.string ⟨s.toArray⟩)], [], nx)
    | some (.slice _), .nil => some ([.nils], [], nx)
    | some (.pointer _), .nil => some ([.nilp], [], nx)
    | some (.slice e), .slice de dr =>
      if P.cellsOf e = 0 ∨ de.length + dr.length = 0 then none else
      match rdList P (evRd P f) ((List.range (de.length + dr.length)).map fun i => (e, i * P.cellsOf e)) (de ++ dr) 0 (nx + 1) with
      | some (l, bl, n1) => if l.length = (de.length + dr.length) * P.cellsOf e then some ([.slice nx 0 de.length (some (de.length + dr.length)) (P.cellsOf e)], (nx, l) :: bl, n1) else none
      | none => none
    | some (.struct fs), .agg ds => match rdList P (evRd P f) (fs.toList.map fun f => (f.type, f.offset)) ds 0 nx with
      | some (l, bl, n1) => if l.length = P.cellsOf t then some (l, bl, n1) else none
      | none => none
    | some (.array n e), .agg ds => match rdList P (evRd P f) ((List.range n).map fun i => (e, i * P.cellsOf e)) ds 0 nx with
      | some (l, bl, n1) => if l.length = P.cellsOf t then some (l, bl, n1) else none
      | none => none
    | _, _ => none
def Blkd (τ : Map) (w : World) (p : Nat × List S) : Prop :=
  ∃ B o c cells e fr, τ p.1 = some (B, o, c) ∧ w.heap[B]? = some (.cells cells e fr) ∧ cells.size = c ∧ o + p.2.length ≤ c ∧ ∀ (i : Nat) s, p.2[i]? = some s → ∃ v, cells[o + i]? = some v ∧ RelS τ s v
theorem Blkd.mono {σ τ : Map} (h : σ.le τ) {w : World} {p : Nat × List S} (hb : Blkd σ w p) : Blkd τ w p := by
  obtain ⟨B, o, c, cells, e, fr, h1, h2, h3, h4, h5⟩ := hb
  exact ⟨B, o, c, cells, e, fr, h _ _ h1, h2, h3, h4, fun i s hs => let ⟨v, a, r⟩ := h5 i s hs; ⟨v, a, r.mono h⟩⟩
def PlOk (w : World) (ps : List MemPlace) : Prop := ∀ b off, MemPlace.cell b off ∈ ps → ∃ c t, w.heap[b]? = some (.cells c t (0, 0))
/-- what a reading comes to -/
def Rdd (w : World) (σ : Map) (nx nx' : Nat) (l : List S) (bl : List (Nat × List S)) (cs : List Value) : Prop :=
  nx ≤ nx' ∧ ∃ τ : Map, σ.le τ ∧ (∀ id, ¬ (nx ≤ id ∧ id < nx') → τ id = σ id) ∧ All2 (RelS τ) l cs ∧ ∀ p ∈ bl, Blkd τ w p
section
variable {P : Program} {w : World}
abbrev tr (P : Program) (w : World) := DataW.trod (H := Unit) (fun _ => ()) P w 0 (fun _ => true) false
def RdOk (P : Program) (w : World) (fuel : Nat) (rd : TypeId → DataW Unit → Nat → Rd) : Prop :=
  ∀ t d nx l bl nx' cs ps, rd t d nx = some (l, bl, nx') → tr P w fuel t cs = some (d, ps) → PlOk w ps → ∀ σ : Map, (∀ id, nx ≤ id → σ id = none) → Rdd w σ nx nx' l bl cs
theorem rdList_ok {fuel : Nat} {rd : TypeId → DataW Unit → Nat → Rd} (hrd : RdOk P w fuel rd) {α : Type} (ty : α → TypeId) (off : α → Nat) (cs : List Value) :
    ∀ (as : List α) (ds : List (DataW Unit)) (acc nx : Nat) (l : List S) (bl : List (Nat × List S)) (nx' : Nat) (xs : List (DataW Unit × List MemPlace)),
      rdList P rd (as.map fun a => (ty a, off a)) ds acc nx = some (l, bl, nx') → xs.length = as.length → (∀ (i : Nat) a, as[i]? = some a → tr P w fuel (ty a) ((cs.drop (off a)).take (P.cellsOf (ty a))) = xs[i]?) → xs.map (·.1) = ds → (∀ x ∈ xs, PlOk w x.2) →
      ∀ σ : Map, (∀ id, nx ≤ id → σ id = none) → Rdd w σ nx nx' l bl ((cs.drop acc).take l.length)
  | [], ds, acc, nx, l, bl, nx', xs, h1, hlen, h2, h3, h4, σ, hσ => by
    simp at hlen; subst hlen
    simp at h3; subst h3
    simp [rdList] at h1
    obtain ⟨rfl, rfl, rfl⟩ := h1
    exact ⟨Nat.le_refl _, σ, Map.le.refl σ, fun _ _ => rfl, by simpa using All2.nil, fun p hp => by cases hp⟩
  | a :: as, ds, acc, nx, l, bl, nx', [], h1, hlen, h2, h3, h4, σ, hσ => by simp at hlen
  | a :: as, ds, acc, nx, l, bl, nx', x :: xs', h1, hlen, h2, h3, h4, σ, hσ => by
    have hx := h2 0 a rfl
    simp only [List.getElem?_cons_zero] at hx
    simp only [List.map_cons] at h3
    subst h3
    simp only [List.map_cons, rdList] at h1
    split at h1
    · rename_i ho
      split at h1
      · rename_i l1 bl1 n1 hr1
        split at h1
        · rename_i hl1
          split at h1
          · rename_i l2 bl2 n2 hr2
            simp only [Option.some.injEq, Prod.mk.injEq] at h1
            obtain ⟨rfl, rfl, rfl⟩ := h1
            obtain ⟨d, p⟩ := x
            obtain ⟨hn1, τ, e1, e2, e3, e4⟩ := hrd (ty a) d nx l1 bl1 n1 _ p hr1 hx (h4 (d, p) (by simp)) σ hσ
            have hτ : ∀ id, n1 ≤ id → τ id = none := fun id hid => by rw [e2 id (by omega)]; exact hσ id (by omega)
            obtain ⟨hn2, τ', f1, f2, f3, f4⟩ := rdList_ok hrd ty off cs as _ (acc + l1.length) n1 l2 bl2 n2 xs' hr2 (by simpa using hlen) (fun i a' ha => by simpa using h2 (i + 1) a' (by simpa using ha)) rfl (fun x hx => h4 x (by simp [hx])) τ hτ
            refine ⟨by omega, τ', e1.trans f1, fun id hid => by rw [f2 id (by omega), e2 id (by omega)], ?_, fun q hq => ?_⟩
            · rw [List.length_append, List.take_add, List.drop_drop]
              refine All2.append ?_ f3
              rw [← ho, hl1]
              exact e3.imp fun _ _ => RelS.mono f1
            · rcases List.mem_append.1 hq with hq | hq
              · exact (e4 q hq).mono f1
              · exact f4 q hq
          · cases h1
        · cases h1
      · cases h1
    · cases h1
theorem cells_at {a : Addr} {n : Nat} {pc : List Value} {c : Array Value} {t : TypeId} (hb : w.heap[a.block]? = some (.cells c t (0, 0))) (hs : a.spot = none) (h : w.cells? 0 a n = some pc) : pc = (c.toList.drop a.off).take n ∧ pc.length = n := by
  simp only [World.cells?, Nat.zero_le, if_true] at h
  have hlen : pc.length = n := by have := Lib.mapM_length h; simpa using this
  have hget : ∀ i, i < n → ∃ v, pc[i]? = some v ∧ c[a.off + i]? = some v := fun i hi => by
    obtain ⟨v, h1, h2⟩ := Lib.mapM_at h i i (by simp [hi])
    refine ⟨v, h1, ?_⟩
    obtain ⟨B, o, sp⟩ := a
    simp only at hs; subst hs
    rw [add_addr] at h2
    simp only [World.cell?, hb] at h2
    simpa using h2
  refine ⟨List.ext_getElem? fun i => ?_, hlen⟩
  by_cases hi : i < n
  · obtain ⟨v, h1, h2⟩ := hget i hi
    rw [h1, List.getElem?_take_of_lt hi, List.getElem?_drop, Array.getElem?_toList, h2]
  · rw [List.getElem?_eq_none (by omega), List.getElem?_eq_none (by simp; omega)]
theorem evRd_ok : ∀ (f fuel : Nat), RdOk P w fuel (evRd P f)
  | 0, fuel => fun t d nx l bl nx' cs ps h => by simp [evRd] at h
  | f + 1, 0 => fun t d nx l bl nx' cs ps h h2 => by simp [tr, DataW.trod] at h2
  | f + 1, fuel + 1 => by
    intro t d nx l bl nx' cs ps h h2 hps σ hσ
    have same : ∀ {s : S} {v : Value}, (∀ τ, RelS τ s v) → cs = [v] → l = [s] → bl = [] → nx' = nx → Rdd w σ nx nx' l bl cs := fun hr e1 e2 e3 e4 => by
      subst e1 e2 e3 e4
      exact ⟨Nat.le_refl _, σ, Map.le.refl σ, fun _ _ => rfl, .cons (hr σ) .nil, fun p hp => by cases hp⟩
    simp only [evRd] at h
    split at h
    · rename_i b hu
      simp only [Option.some.injEq, Prod.mk.injEq] at h
      obtain ⟨rfl, rfl, rfl⟩ := h
      obtain ⟨z, hc, he⟩ := DataW.trod_bool hu h2
      cases he
      exact same (fun τ => .bool _) hc rfl rfl rfl
    · rename_i k0 k n hu
      simp only [Option.some.injEq, Prod.mk.injEq] at h
      obtain ⟨rfl, rfl, rfl⟩ := h
      obtain ⟨z, hc, he, _⟩ := DataW.trod_int hu h2
      cases he
      exact same (fun τ => .int _ _) hc rfl rfl rfl
    · rename_i s hu
      simp only [Option.some.injEq, Prod.mk.injEq] at h
      obtain ⟨rfl, rfl, rfl⟩ := h
      obtain ⟨z, hc, he, _⟩ := DataW.trod_string hu h2
      cases he
      exact same (fun τ => by
        have : (⟨z.data.toList.toArray⟩ : ByteArray) = z := by cases z; simp
        rw [this]; exact .lit _ rfl) hc rfl rfl rfl
    · rename_i e hu
      simp only [Option.some.injEq, Prod.mk.injEq] at h
      obtain ⟨rfl, rfl, rfl⟩ := h
      rcases DataW.trod_slice hu h2 with ⟨hc, _⟩ | ⟨a, len, cap, elems, rest, m, _, _, hx, _⟩
      · exact same (fun τ => .nils) hc rfl rfl rfl
      · cases hx
    · rename_i e hu
      simp only [Option.some.injEq, Prod.mk.injEq] at h
      obtain ⟨rfl, rfl, rfl⟩ := h
      rcases DataW.trod_pointer hu h2 with ⟨hc, _⟩ | ⟨a, cs', y, m, _, _, hx, _⟩
      · exact same (fun τ => .nilp) hc rfl rfl rfl
      · cases hx
    · rename_i e de dr hu
      split at h
      · cases h
      · rename_i hne
        split at h
        · rename_i l1 bl1 n1 hr
          split at h
          · rename_i hl
            simp only [Option.some.injEq, Prod.mk.injEq] at h
            obtain ⟨rfl, rfl, rfl⟩ := h
            rcases DataW.trod_slice hu h2 with ⟨_, hx⟩ | ⟨a, len, cap, elems, rest, m, hm, hc, hx, _, hlc, _, hel, hat, hrest, _⟩
            · cases hx
            · obtain ⟨hrl, hrat⟩ := hrest rfl
              cases hm
              cases hx
              subst hc
              simp only [List.length_map] at hne hr hl ⊢
              have hz : P.cellsOf e ≠ 0 := fun hh => hne (.inl hh)
              have hcap : elems.length + rest.length = cap := by omega
              have hpos : 0 < cap := by omega
              obtain ⟨c, t', hblk⟩ : ∃ c t, w.heap[a.block]? = some (.cells c t (0, 0)) := by
                refine hps a.block (a.off + 0) ?_
                refine List.mem_append_left _ (List.mem_map.2 ⟨0, List.mem_range.2 ?_, rfl⟩)
                exact Nat.mul_pos (by omega) (Nat.pos_of_ne_zero hz)
              -- every place of the row, as it lies
              have hpiece : ∀ i, i < cap → (w.cells? 0 (a.add (i * P.cellsOf e)) (P.cellsOf e)).bind (DataW.trod (H := Unit) (fun _ => ()) P w 0 (fun _ => true) false fuel e) = (elems ++ rest)[i]? := fun i hi => by
                by_cases hie : i < len
                · rw [List.getElem?_append_left (by omega)]; exact hat i hie
                · rw [List.getElem?_append_right (by omega)]
                  have := hrat (i - len) (by omega)
                  rw [show len + (i - len) = i by omega] at this
                  rw [this, hel]
              have hspot : a.spot = none := by
                have h0 := hpiece 0 hpos
                have : (elems ++ rest)[0]? ≠ none := by rw [List.getElem?_eq_getElem (by simp; omega)]; simp
                cases hcl : w.cells? 0 (a.add (0 * P.cellsOf e)) (P.cellsOf e) with
                | none => rw [hcl] at h0; exact absurd h0.symm this
                | some pc =>
                  have : (a.add (0 * P.cellsOf e)) = a := by simp [Addr.add]
                  rw [this] at hcl
                  simp only [World.cells?, Nat.zero_le, if_true] at hcl
                  obtain ⟨v, _, hv⟩ := Lib.mapM_at hcl 0 0 (List.getElem?_range (by omega))
                  have ha0 : a.add 0 = a := by simp [Addr.add]
                  rw [ha0] at hv
                  simp only [World.cell?, hblk] at hv
                  cases hs : a.spot with
                  | none => rfl
                  | some q => rw [hs] at hv; simp at hv
              have hadd : ∀ i, a.add i = ⟨a.block, a.off + i, none⟩ := fun i => by
                obtain ⟨B, o, sp⟩ := a
                simp only at hspot; subst hspot
                exact add_addr B o i
              have hall : ∀ (i : Nat) j, (List.range (elems.length + rest.length))[i]? = some j → tr P w fuel e (((c.toList.drop a.off).drop (j * P.cellsOf e)).take (P.cellsOf e)) = (elems ++ rest)[i]? := fun i j hij => by
                have hi : i < elems.length + rest.length := by have := (List.getElem?_eq_some_iff.1 hij).1; simpa using this
                have : j = i := by rw [List.getElem?_range hi] at hij; cases hij; rfl
                subst this
                have h0 := hpiece j (by omega)
                have hsome : (elems ++ rest)[j]? ≠ none := by rw [List.getElem?_eq_getElem (by simp; omega)]; simp
                cases hcl : w.cells? 0 (a.add (j * P.cellsOf e)) (P.cellsOf e) with
                | none => rw [hcl] at h0; exact absurd h0.symm hsome
                | some pc =>
                  rw [hcl] at h0
                  obtain ⟨hpc, _⟩ := cells_at (a := a.add (j * P.cellsOf e)) (c := c) (t := t') (by rw [hadd]; exact hblk) (by rw [hadd]) hcl
                  rw [List.drop_drop]
                  have : (a.add (j * P.cellsOf e)).off = a.off + j * P.cellsOf e := by rw [hadd]
                  rw [this] at hpc
                  rw [← hpc]; exact h0
              have hσ' : ∀ id, nx + 1 ≤ id → (σ.put nx (a.block, a.off, c.size)) id = none := fun id hid => by
                rw [Map.put_other _ _ (by omega)]; exact hσ id (by omega)
              obtain ⟨hn, τ, q1, q2, q3, q4⟩ := rdList_ok (evRd_ok f fuel) (fun _ => e) (fun i => i * P.cellsOf e) (c.toList.drop a.off) (List.range (elems.length + rest.length)) _ 0 (nx + 1) l1 bl1 n1 (elems ++ rest) hr (by simp) hall (by simp)
                (fun x hx b off hb => hps b off (List.mem_append_right _ (List.mem_flatMap.2 ⟨x, hx, hb⟩))) _ hσ'
              have hτ : τ nx = some (a.block, a.off, c.size) := q1 _ _ (Map.put_same _ _ _)
              have hll : l1.length ≤ c.size - a.off := by
                have := q3.length
                simp at this
                omega
              have hbig : 0 < l1.length := by rw [hl]; exact Nat.mul_pos (by omega) (Nat.pos_of_ne_zero hz)
              refine ⟨by omega, τ, (Map.le_put (hσ nx (Nat.le_refl _))).trans q1, fun id hid => ?_, .cons ?_ .nil, fun q hq => ?_⟩
              · rw [q2 id (by omega), Map.put_other _ _ (by omega)]
              · have hval : (Value.slice (some a) len cap) = .slice (some ⟨a.block, a.off + 0, none⟩) len cap := by
                  have := hadd 0
                  rw [← this]; simp [Addr.add]
                rw [hval, hel]
                refine RelS.slice hτ (fun x hx => by cases hx; omega) hlc ?_
                rw [hcap] at hl
                omega
              · rcases List.mem_cons.1 hq with rfl | hq
                · refine ⟨a.block, a.off, c.size, c, t', (0, 0), hτ, hblk, rfl, by simp only; omega, fun i s hs => ?_⟩
                  obtain ⟨v, hv, hr'⟩ := q3.get i hs
                  refine ⟨v, ?_, hr'⟩
                  simp only [List.drop_zero] at hv
                  have hi : i < l1.length := (List.getElem?_eq_some_iff.1 hs).1
                  rw [List.getElem?_take_of_lt hi, List.getElem?_drop, Array.getElem?_toList] at hv
                  exact hv
                · exact q4 q hq
          · cases h
        · cases h
    · rename_i fs ds hu
      split at h
      · rename_i l1 bl1 n1 hr
        split at h
        · rename_i hl
          simp only [Option.some.injEq, Prod.mk.injEq] at h
          obtain ⟨rfl, rfl, rfl⟩ := h
          obtain ⟨xs, m, hm, hx, hcl, hxl, hat⟩ := DataW.trod_struct hu h2
          cases hm
          cases hx
          have := rdList_ok (evRd_ok f fuel) (fun f : Field => f.type) (fun f => f.offset) cs fs.toList _ 0 nx l1 bl1 n1 xs hr (by simpa using hxl) (fun i f hf => hat i f (by simpa using hf)) rfl
            (fun x hx b off hb => hps b off (List.mem_flatMap.2 ⟨x, hx, hb⟩)) σ hσ
          rw [List.drop_zero, hl, ← hcl, List.take_length] at this
          exact this
        · cases h
      · cases h
    · rename_i n e ds hu
      split at h
      · rename_i l1 bl1 n1 hr
        split at h
        · rename_i hl
          simp only [Option.some.injEq, Prod.mk.injEq] at h
          obtain ⟨rfl, rfl, rfl⟩ := h
          simp only [tr, DataW.trod, hu] at h2
          split at h2
          · rename_i hcl
            obtain ⟨xs, hm, hx⟩ := Option.map_eq_some_iff.1 h2
            cases hx
            have hxl := Lib.mapM_length hm
            have := rdList_ok (evRd_ok f fuel) (fun _ : Nat => e) (fun i => i * P.cellsOf e) cs (List.range n) _ 0 nx l1 bl1 n1 xs hr hxl (fun i j hij => by
              obtain ⟨b, hb1, hb2⟩ := Lib.mapM_at hm i j hij
              rw [hb1]; exact hb2) rfl (fun x hx b off hb => hps b off (List.mem_flatMap.2 ⟨x, hx, hb⟩)) σ hσ
            rw [List.drop_zero, hl, ← hcl, List.take_length] at this
            exact this
          · cases h2
        · cases h
      · cases h
    · cases h
end
end Go.Proofs.YtffaehgicojjmaaDoor.Ev
namespace Go.Proofs.YtffaehgicojjmaaDoor.Ev
open Go.RowKit
set_option linter.unusedVariables false
set_option linter.unusedSimpArgs false

/-! ### where a law begins: the listed variables, and nothing else -/
noncomputable def heapOf : List (Nat × List S) → PM Blk
  | [] => .leaf
  | (id, c) :: r => PM.set (id + 1) (heapOf r) id (some ⟨false, c.length, PM.write c .leaf 0, []⟩)
noncomputable def stOf (l : List (Nat × List S)) (nx : Nat) : St := ⟨heapOf l, nx, nx⟩
theorem heapOf_get : ∀ {l : List (Nat × List S)} {id : Nat} {b : Blk}, (heapOf l).get id = some b → ∃ c, (id, c) ∈ l ∧ b = ⟨false, c.length, PM.write c .leaf 0, []⟩
  | [], id, b, h => by simp [heapOf] at h
  | (i, c) :: r, id, b, h => by
    simp only [heapOf] at h
    rw [PM.get_set _ _ _ _ _ (by omega)] at h
    by_cases hi : id = i
    · rw [if_pos hi] at h; cases h; exact ⟨c, by simp [hi], rfl⟩
    · rw [if_neg hi] at h
      obtain ⟨c', h1, h2⟩ := heapOf_get h
      exact ⟨c', by simp [h1], h2⟩
def laidCells (P : Program) : List (String × DataW Unit) → Nat → Option (List (Nat × List S) × Nat)
  | [], nx => some ([], nx)
  | (n, d) :: r, nx => match P.globalNamed n with
    | some g => match (P.globals[g]?).map (·.type) with
      | some t => match evRd P 50 t d nx with
        | some (l, bl, n1) => match laidCells P r n1 with
          | some (rest, n2) => some ((g, l) :: (bl ++ rest), n2)
          | none => none
        | none => none
      | none => none
    | none => none
section
variable {P : Program} {W : World}
theorem laidCells_ok {g : Nat} : ∀ {laid : List (String × DataW Unit)} {ps : List MemPlace} {l : List (Nat × List S)} {nx nx' : Nat}, DataW.LaidVars P W laid ps → PlOk W ps → laidCells P laid nx = some (l, nx') →
    ∀ σ : Map, (∀ i, i < g → σ i = some (i, 0, match W.heap[i]? with | some (.cells c _ _) => c.size | _ => 0)) → (∀ n g', P.globalNamed n = some g' → g' < g) → (∀ id, nx ≤ id → σ id = none) →
      nx ≤ nx' ∧ ∃ τ : Map, σ.le τ ∧ (∀ id, nx' ≤ id → τ id = none) ∧ ∀ p ∈ l, Blkd τ W p
  | [], ps, l, nx, nx', hv, hps, h, σ, hσ, hgl, hf => by
    simp only [laidCells, Option.some.injEq, Prod.mk.injEq] at h
    obtain ⟨rfl, rfl⟩ := h
    exact ⟨Nat.le_refl _, σ, Map.le.refl σ, hf, fun p hp => by cases hp⟩
  | (n, d) :: r, ps, l, nx, nx', hv, hps, h, σ, hσ, hgl, hf => by
    obtain ⟨gi, t, cs, fuel, p, q, e1, e2, e3, e4, e5, e6⟩ := hv
    simp only [laidCells, e1, e2] at h
    split at h
    · rename_i l1 bl n1 hr
      split at h
      · rename_i rest n2 hrest
        simp only [Option.some.injEq, Prod.mk.injEq] at h
        obtain ⟨rfl, rfl⟩ := h
        subst e6
        obtain ⟨hn1, τ, q1, q2, q3, q4⟩ := evRd_ok 50 fuel t d nx l1 bl n1 cs.toList p hr e4 (fun b off hb => hps b off (by simp [hb])) σ hf
        have hτ : ∀ id, n1 ≤ id → τ id = none := fun id hid => by rw [q2 id (by omega)]; exact hf id (by omega)
        have hσ' : ∀ i, i < g → τ i = some (i, 0, match W.heap[i]? with | some (.cells c _ _) => c.size | _ => 0) := fun i hi => q1 _ _ (hσ i hi)
        obtain ⟨hn2, τ', f1, f2, f3⟩ := laidCells_ok e5 (fun b off hb => hps b off (by simp [hb])) hrest τ hσ' hgl hτ
        refine ⟨by omega, τ', q1.trans f1, f2, fun x hx => ?_⟩
        rcases List.mem_cons.1 hx with rfl | hx
        · simp only [World.var?, e1, Option.bind_some] at e3
          cases hb : W.heap[gi]? with
          | none => rw [hb] at e3; cases e3
          | some ob =>
            rw [hb] at e3
            cases ob with
            | cells c ty fr =>
              simp only [Option.some.injEq] at e3
              subst e3
              have hs := hσ' gi (hgl n gi e1)
              rw [hb] at hs
              have hlen := q3.length
              refine ⟨gi, 0, c.size, c, ty, fr, f1 _ _ hs, hb, rfl, by simp at hlen; simp only; omega, fun i s hi => ?_⟩
              obtain ⟨v, hv, hr'⟩ := q3.get i hi
              exact ⟨v, by simpa using hv, hr'.mono f1⟩
            | map a b => cases e3
            | _ => cases e3
        · rcases List.mem_append.1 hx with hx | hx
          · exact (q4 x hx).mono f1
          · exact f3 x hx
      · cases h
    · cases h
/-- the world at a law's call, as the evaluator has it -/
theorem laid_rel {laid : List (String × DataW Unit)} {g nx' : Nat} {l : List (Nat × List S)} (hL : laidMet P laid W) (hgl : ∀ n g', P.globalNamed n = some g' → g' < g) (h : laidCells P laid g = some (l, nx')) :
    ∃ σ : Map, RelH σ (stOf l nx') W ∧ Globals σ g ∧ ∀ lim, Free σ nx' lim := by
  obtain ⟨ps, h1, _, h3⟩ := hL
  have hps : PlOk W ps := fun b off hb => (h3 b off hb).1
  obtain ⟨hn, τ, q1, q2, q3⟩ := laidCells_ok (g := g) h1 hps h (fun i => if i < g then some (i, 0, match W.heap[i]? with | some (.cells c _ _) => c.size | _ => 0) else none) (fun i hi => if_pos hi) hgl (fun id hid => if_neg (by omega))
  refine ⟨τ, ⟨fun id b hb => ?_, fun id id' b b' x y hb hb' _ hown => ?_, fun id b hb => ?_⟩, fun i hi => ?_, fun lim id hid _ => q2 id hid⟩
  · obtain ⟨c, hm, rfl⟩ := heapOf_get hb
    obtain ⟨B, o, n, cells, e, fr, a1, a2, a3, a4, a5⟩ := q3 _ hm
    refine ⟨B, o, n, cells, e, fr, a1, a2, (fun hh => by cases hh), a3, a4, fun i s hs => ?_⟩
    exact a5 i s (cell_fresh hs)
  · obtain ⟨c, _, rfl⟩ := heapOf_get hb
    obtain ⟨c', _, rfl⟩ := heapOf_get hb'
    rcases hown with hh | hh <;> cases hh
  · obtain ⟨c, hm, rfl⟩ := heapOf_get hb
    obtain ⟨B, o, n, cells, e, fr, a1, _⟩ := q3 _ hm
    show id < nx'
    refine Classical.byContradiction fun hh => ?_
    rw [q2 id (by omega)] at a1; cases a1
  · exact ⟨_, q1 _ _ (if_pos hi)⟩

/-- what is asked of a closed law: it gives true -/
noncomputable def saysTrue (v : V) (st : St) : R := match v with
  | .sc (.bool true) => .done .normal .leaf ⟨.leaf, 0, 0⟩
  | _ => .fail 1
theorem grown_of {σ σ' : Map} {st st' : St} {w w' : World} {lw : Nat} (h : Ext σ σ' st st' w w' lw) (hown : ∀ id b, st.heap.get id = some b → b.own = false) : Grown w w' := by
  refine ⟨⟨h.os, h.output, fun i hi => ?_⟩, h.fro, h.size⟩
  have he : w'.heap[i]? = w.heap[i]? := h.frame i hi fun id b x hb ho => by rw [hown id b hb] at ho; cases ho
  rw [he]
  exact (World.keptBut_refl w (fun _ => False)).2.2 i hi
/-- A CLOSED LAW: the evaluator says true, so does the program, whatever the tape. -/
theorem closed_law {F : Nat → Option HF} (hm : P.follows .mixedOrders = true) {g k f nx' : Nat} {laid : List (String × DataW Unit)} {l : List (Nat × List S)} (hF : ∀ f cf, F f = some cf → okF P g f cf)
    (hgl : ∀ n g', P.globalNamed n = some g' → g' < g) (hlaid : laidCells P laid g = some (l, nx')) (hrun : callK F (run F k) f [] (stOf l nx') saysTrue = .done .normal .leaf ⟨.leaf, 0, 0⟩) (hL : laidMet P laid W) :
    Calls P f #[] W fun e w' => e = .returned (.bool true) ∧ Grown W w' := by
  obtain ⟨σ, h1, h2, h3⟩ := laid_rel hL hgl hlaid
  obtain ⟨v, st', a1, a2, _, a4⟩ := callK_ok hm hF k f [] (stOf l nx') saysTrue _ _ _ hrun
  refine Calls.mono (a4 σ #[] W st'.next .nil h2 h1 (h3 _) (Nat.le_refl _)) fun e w' he => ?_
  obtain ⟨v', σ', rfl, hext, hrel⟩ := he
  have hv : v = .sc (.bool true) := by
    unfold saysTrue at a1
    split at a1
    · rfl
    · cases a1
  subst hv
  cases hrel with
  | sc hr =>
    cases hr
    exact ⟨rfl, grown_of hext fun id b hb => by obtain ⟨c, _, rfl⟩ := heapOf_get hb; rfl⟩
end
end Go.Proofs.YtffaehgicojjmaaDoor.Ev
namespace Go.Proofs.YtffaehgicojjmaaDoor.Ev
set_option linter.unusedSimpArgs false
theorem none_some {P : Program} {g a : Nat} : ∀ cf, (none : Option HF) = some cf → okF P g a cf := fun _ h => by cases h
theorem some_some {P : Program} {g a : Nat} {c : HF} (e : okF P g a c) : ∀ cf, some c = some cf → okF P g a cf := fun _ h => by cases h; exact e
/-! a table of compiled functions, held against the program -/
def AllT (P : Program) (g : Nat) : PM HF → Nat → Nat → Prop
  | .leaf, _, _ => True
  | .node l v r, a, b => (∀ cf, v = some cf → okF P g a cf) ∧ AllT P g l (a + b) (2 * b) ∧ AllT P g r (a + 2 * b) (2 * b)
theorem AllT.get {P : Program} {g : Nat} : ∀ {m : PM HF} {a b : Nat}, AllT P g m a b → ∀ (k : Nat) (cf : HF), m.get k = some cf → okF P g (a + b * k) cf
  | .leaf, a, b, h, k, cf, hk => by simp at hk
  | .node l v r, a, b, h, 0, cf, hk => by
    have : v = some cf := hk
    simpa using h.1 cf this
  | .node l v r, a, b, h, j + 1, cf, hk => by
    rw [PM.get_succ] at hk
    split at hk
    · rename_i hj
      have key := AllT.get h.2.1 (j / 2) cf hk
      have e : a + b * (j + 1) = a + b + 2 * b * (j / 2) := by
        have hj2 : j = 2 * (j / 2) := by omega
        generalize j / 2 = i at hj2
        subst hj2
        rw [Nat.mul_add, ← Nat.mul_assoc, Nat.mul_comm b 2]; omega
      rw [e]; exact key
    · rename_i hj
      have key := AllT.get h.2.2 (j / 2) cf hk
      have e : a + b * (j + 1) = a + 2 * b + 2 * b * (j / 2) := by
        have hj2 : j = 2 * (j / 2) + 1 := by omega
        generalize j / 2 = i at hj2
        subst hj2
        have : b * (2 * i + 1 + 1) = 2 * b + 2 * b * i := by rw [Nat.mul_assoc]; rw [show 2 * i + 1 + 1 = 2 * (1 + i) by omega, Nat.mul_left_comm, Nat.mul_add]; simp [Nat.mul_add]
        rw [this]; omega
      rw [e]; exact key
theorem table_ok {P : Program} {g : Nat} {m : PM HF} (h : AllT P g m 0 1) : ∀ f cf, m.get f = some cf → okF P g f cf := fun f cf hf => by
  have := h.get f cf hf
  simpa using this
end Go.Proofs.YtffaehgicojjmaaDoor.Ev
namespace Go.Proofs.YtffaehgicojjmaaDoor.Ev
/-! a world that holds what the listed variables hold: for the witness -/
abbrev Mks := Option (List Value × List (Nat × TypeId × List Value) × Nat)
def mkList (rd : TypeId → DataW Unit → Nat → Mks) : List TypeId → List (DataW Unit) → Nat → Mks
  | t :: ts, d :: ds, nx => match rd t d nx with
    | some (l, b, n) => match mkList rd ts ds n with
      | some (l', b', n') => some (l ++ l', b ++ b', n')
      | none => none
    | none => none
  | _, _, nx => some ([], [], nx)
def mkVal (P : Program) : Nat → TypeId → DataW Unit → Nat → Mks
  | 0, _, _, _ => none
  | f + 1, t, d, nx => match P.underlying t, d with
    | some .bool, .lit (.bool b) => some ([.bool b], [], nx)
    | some (.int _), .lit (.int k n) => some ([.int k n], [], nx)
    | some .string, .lit (.string s) => some ([.string ⟨s.toArray⟩], [], nx)
    | some (.slice _), .nil => some ([.slice none 0 0], [], nx)
    | some (.pointer _), .nil => some ([.pointer none], [], nx)
    | some (.slice e), .slice de dr => match mkList (mkVal P f) ((List.range (de.length + dr.length)).map fun _ => e) (de ++ dr) (nx + 1) with
      | some (l, b, n) => some ([.slice (some ⟨nx, 0, none⟩) de.length (de.length + dr.length)], (nx, e, l) :: b, n)
      | none => none
    | some (.struct fs), .agg ds => mkList (mkVal P f) (fs.toList.map (·.type)) ds nx
    | some (.array n e), .agg ds => mkList (mkVal P f) ((List.range n).map fun _ => e) ds nx
    | _, _ => none
def mkLaid (P : Program) : List (String × DataW Unit) → Nat → Option (List (Nat × List Value) × List (Nat × TypeId × List Value) × Nat)
  | [], nx => some ([], [], nx)
  | (n, d) :: r, nx => match P.globalNamed n with
    | some g => match P.globals[g]? with
      | some x => match mkVal P 50 x.type d nx with
        | some (l, b, n1) => match mkLaid P r n1 with
          | some (gs, b', n2) => some ((g, l) :: gs, b ++ b', n2)
          | none => none
        | none => none
      | none => none
    | none => none
def laidHeap (h : Array Obj) (gs : List (Nat × List Value)) (bs : List (Nat × TypeId × List Value)) (nx n : Nat) : Array Obj :=
  let h := gs.foldl (fun h p => h.modify p.1 (fun | .cells _ t fr => .cells p.2.toArray t fr | o => o)) h
  (List.range n).foldl (fun h i => match bs.find? (fun p => p.1 == nx + i) with | some p => h.push (.cells p.2.2.toArray p.2.1) | none => h) h
noncomputable def laidWorld (P : Program) (os : Os) (laid : List (String × DataW Unit)) (nx : Nat) : World :=
  { World.settled P os with heap := match mkLaid P laid nx with | some (gs, bs, n) => laidHeap (World.settled P os).heap gs bs nx (n - nx) | none => #[] }
theorem globalNamed_lt {P : Program} {n : String} {g : Nat} (h : P.globalNamed n = some g) : g < P.globals.size := by
  unfold Program.globalNamed at h
  split at h
  · rename_i g' hf
    cases h
    have : g ∈ (List.range P.globals.size).filter fun g => (P.globals[g]?).any (·.name == n) := by rw [hf]; exact List.mem_singleton.2 rfl
    exact List.mem_range.1 (List.mem_filter.1 this).1
  · cases h
end Go.Proofs.YtffaehgicojjmaaDoor.Ev
namespace Go.Proofs.YtffaehgicojjmaaDoor.Ev
/-! short names for the closures -/
abbrev p0 : Pth := .here
abbrev p1 : Pth := .l .here
abbrev p2 : Pth := .r .here

noncomputable def ld1 (st : St) (a : V) (K : V → R) : R := asPtr 63 a fun id off => load1K st id off K
noncomputable def ldN (st : St) (n : Nat) (a : V) (K : V → R) : R := asPtr 63 a fun id off => loadNK st n id off K
noncomputable def sto (st : St) (n : Nat) (a x : V) (K : St → R) : R := asPtr 64 a fun id off => iteB (Nat.beq (lenL (cellsV x)) n) (notTup x (storeK st id off (cellsV x) K)) (.fail 64)
noncomputable def fad (o : Nat) (x : V) (K : V → R) : R := asPtr 71 x fun id off => seqN (Nat.add off o) fun o => K (.sc (.ptr id o))
noncomputable def ixs (z : Nat) (x i : V) (K : V → R) : R := asNat 77 i fun i => asSc 76 x (idxK z i K)
noncomputable def lnS (x : V) (K : V → R) : R := asSc 36 x fun s => lenL' s fun n => K (.sc (.int .i64 (.ofNat n)))
noncomputable def alc (st : St) (z : List S) (K : V → St → R) : R := allocL st z fun id st => K (.sc (.ptr id 0)) st
noncomputable def bxx (st : St) (x : V) (K : V → St → R) : R := notTup x (allocL st (cellsV x) fun id st => K (.sc (.ptr id 0)) st)
noncomputable def cnv (k : IntKind) (x : V) (K : V → R) : R := asInt' 67 x fun _ n => intK k n K
noncomputable def ixA (len z : Nat) (x i : V) (K : V → R) : R := asNat 77 i fun i => iteB (Nat.blt i len) (asPtr 76 x fun id off => seqN (Nat.add off (Nat.mul i z)) fun o => K (.sc (.ptr id o))) (.fail 74)
noncomputable def fld (o n : Nat) (agg : Bool) (x : V) (K : V → R) : R := partK o n agg K x
noncomputable def nott (x : V) (K : V → R) : R := asBool' 66 x fun b => boolK (not b) K
noncomputable def i6 (n : Nat) : V := .sc (.int .i64 (.ofNat n))
noncomputable def u6 (n : Nat) : V := .sc (.int .u64 (.ofNat n))
noncomputable def u8 (n : Nat) : V := .sc (.int .u8 (.ofNat n))
/-! regions that draw -/
noncomputable def dw1 (mk : Mk) (bit : Nat) (o : (V → St → R) → R) (K : V → Mk → St → R) : R := o fun v st => mkA mk bit fun mk => K v mk st
noncomputable def dw2 (n0 : Nat) (mk : Mk) (bit pre : Nat) (a : V) (o : (V → St → R) → R) (K : V → Mk → St → R) : R := asPtr 63 a fun id _ => iteB (okL mk n0 pre id) (o fun v st => mkL mk bit id fun mk => K v mk st) (.fail 87)
noncomputable def dw2a (n0 : Nat) (mk : Mk) (bit pre : Nat) (a : V) (o : (V → St → R) → R) (K : V → Mk → St → R) : R := asPtr 63 a fun id _ => iteB (okL mk n0 pre id) (o fun v st => mkL mk bit id fun mk => K v mk st) (.fail 87)
noncomputable def dw3 (mk : Mk) (bit pre : Nat) (st : St) (o : St → (V → St → R) → R) (K : V → Mk → St → R) : R := iteB (okH mk pre) (o (setLow st st.next) fun v st' => heavyK st.next st.low pre bit mk (fun mk st => K v mk st) st') (.fail 89)
noncomputable def dw4 (n0 : Nat) (mk : Mk) (bit pre : Nat) (a : V) (o : (V → St → R) → R) (K : V → Mk → St → R) : R := asPtr 64 a fun id _ => iteB (okS mk n0 pre id) (o fun v st => mkS mk bit id fun mk => K v mk st) (.fail 88)
noncomputable def dw5 (n0 : Nat) (mk : Mk) (bit pre : Nat) (st : St) (c : C1) (ρ : Ev) (o : St → (V → St → R) → R) (K : V → Mk → St → R) : R :=
  touchOf ρ c fun ids => iteB (okT mk n0 pre ids) (takeH st.heap ids .leaf fun h => o ⟨h, st.next, st.low⟩ fun v s => mergeK st ids s fun st => mkT mk bit ids fun mk => K v mk st) (.fail 85)
end Go.Proofs.YtffaehgicojjmaaDoor.Ev
namespace Go.Proofs.YtffaehgicojjmaaDoor.Ev
open Go.RowKit
set_option linter.unusedVariables false
set_option linter.unusedSimpArgs false

/-! ### calls whose answer is known: they read the listed variables alone, and answer a bool -/
def sEq : S → S → Bool
  | .int k n, .int k' n' => decide (k = k') && decide (n = n')
  | .slice a b c d e, .slice a' b' c' d' e' => (decide (a = a') && decide (b = b')) && (decide (c = c') && (decide (d = d') && decide (e = e')))
  | .nils, .nils => true
  | .bool a, .bool b => decide (a = b)
  | _, _ => false
theorem sEq_of {a b : S} (h : sEq a b = true) : a = b := by
  unfold sEq at h
  split at h
  · simp only [Bool.and_eq_true, decide_eq_true_eq] at h
    obtain ⟨rfl, rfl⟩ := h; rfl
  · simp only [Bool.and_eq_true, decide_eq_true_eq] at h
    obtain ⟨⟨rfl, rfl⟩, rfl, rfl, rfl⟩ := h; rfl
  · rfl
  · simp only [decide_eq_true_eq] at h
    rw [h]
  · cases h
def lEq : List S → List S → Bool
  | [], [] => true
  | a :: l, b :: m => sEq a b && lEq l m
  | _, _ => false
theorem lEq_of : ∀ {a b : List S}, lEq a b = true → a = b
  | [], [], _ => rfl
  | [], _ :: _, h => by cases h
  | _ :: _, [], h => by cases h
  | a :: l, b :: m, h => by
    simp only [lEq, Bool.and_eq_true] at h
    rw [sEq_of h.1, lEq_of h.2]
noncomputable def holds1 (h : PM Blk) (p : Nat × List S) : Bool := match h.get p.1 with
  | some b => match cellsAt b 0 p.2.length with
    | some c => lEq c p.2
    | none => false
  | none => false
noncomputable def holdsAll (h : PM Blk) : List (Nat × List S) → Bool
  | [] => true
  | p :: r => holds1 h p && holdsAll h r
/-- the call of f: if its answer is known, that -/
noncomputable def callO (l : List (Nat × List S)) (O : Nat → Option Bool) (call : CallK) : CallK := fun f args st K => match O f with
  | none => call f args st K
  | some b => match args with
    | [] => iteB (holdsAll st.heap l) (K (.sc (.bool b)) st) (.fail 96)
    | _ => .fail 97
/-- a function's code, with known answers at its own calls -/
noncomputable def runO (l : List (Nat × List S)) (O : Nat → Option Bool) (F : Nat → Option HF) (fuel : Nat) : HC → PM V → St → R :=
  Nat.rec (motive := fun _ => HC → PM V → St → R) (fun _ _ _ => .fail 0) (fun k ih => step (callO l O (callK F (run F k))) ih) fuel
noncomputable def saysB (b : Bool) (v : V) (st : St) : R := match v with
  | .sc (.bool c) => iteB (Bool.rec (motive := fun _ => Bool) (Bool.rec (motive := fun _ => Bool) true false b) b c) (.done .normal .leaf ⟨.leaf, 0, 0⟩) (.fail 1)
  | _ => .fail 1
theorem saysB_done {b : Bool} {v : V} {st : St} {x : X} {tf : PM V} {sf : St} (h : saysB b v st = .done x tf sf) : v = .sc (.bool b) := by
  unfold saysB at h
  split at h
  · rename_i c
    obtain ⟨h1, _⟩ := ite_done h
    cases b <;> cases c <;> first | rfl | cases h1
  · cases h
section
variable {P : Program} {g : Nat}
theorem holdsAll_mem {h : PM Blk} : ∀ {l : List (Nat × List S)} {p : Nat × List S}, holdsAll h l = true → p ∈ l → holds1 h p = true
  | [], p, _, hm => by cases hm
  | q :: r, p, hh, hm => by
    simp only [holdsAll, Bool.and_eq_true] at hh
    rcases List.mem_cons.1 hm with rfl | hm
    · exact hh.1
    · exact holdsAll_mem hh.2 hm
def sLt (nx : Nat) : S → Bool
  | .slice id _ _ _ _ => Nat.blt id nx
  | .int _ _ => true
  | .bool _ => true
  | .nils => true
  | _ => false
def cut (σ : Map) (nx : Nat) : Map := fun i => if i < nx then σ i else none
theorem relS_only {σ : Map} {nx : Nat} {s : S} {v : Value} (h : sLt nx s = true) (hr : RelS σ s v) : RelS (cut σ nx) s v := by
  cases hr with
  | slice hi h1 h2 h3 => exact .slice (by unfold cut; rw [if_pos (blt_of h)]; exact hi) h1 h2 h3
  | int => exact .int _ _
  | bool => exact .bool _
  | nils => exact .nils
  | _ => cases h
/-- the listed blocks lie ahead of nx, and name none behind it -/
def listOk (l : List (Nat × List S)) (nx : Nat) : Bool := l.all fun p => Nat.blt p.1 nx && p.2.all (sLt nx)
/-- the listed blocks alone -/
theorem relH_part {σ : Map} {st : St} {w : World} {l : List (Nat × List S)} {nx : Nat} (hr : RelH σ st w) (hh : holdsAll st.heap l = true) (hl : listOk l nx = true) : RelH (cut σ nx) (stOf l nx) w := by
  have hp : ∀ p ∈ l, p.1 < nx ∧ ∀ s ∈ p.2, sLt nx s = true := fun p hm => by
    have := List.all_eq_true.1 hl p hm
    simp only [Bool.and_eq_true] at this
    exact ⟨blt_of this.1, fun s hs => List.all_eq_true.1 this.2 s hs⟩
  refine ⟨fun id b hb => ?_, fun id id' b b' x y hb hb' _ hown => ?_, fun id b hb => ?_⟩
  · obtain ⟨c, hm, rfl⟩ := heapOf_get hb
    have h1 := holdsAll_mem hh hm
    unfold holds1 at h1
    split at h1
    · rename_i b1 hb1
      split at h1
      · rename_i c1 hc1
        have he : c1 = c := lEq_of h1
        subst he
        obtain ⟨B, o, n, cells, e, fr, q1, q2, q3, q4, q5, q6⟩ := hr.blk id b1 hb1
        obtain ⟨e1, e2⟩ := cellsAt_get hc1
        refine ⟨B, o, n, cells, e, fr, by unfold cut; rw [if_pos (hp _ hm).1]; exact q1, q2, (fun hw => by cases hw), q4, ?_, fun i s hs => ?_⟩
        · show o + c1.length ≤ n
          rcases Nat.eq_zero_or_pos c1.length with h0 | h0
          · have := q5; omega
          · have := Blk.cell_lt (e2 (c1.length - 1) (c1[c1.length - 1]'(by omega)) (List.getElem?_eq_getElem (by omega)))
            omega
        · have hs' := cell_fresh hs
          have h2 := e2 i s hs'
          rw [Nat.zero_add] at h2
          obtain ⟨v, h3, h4⟩ := q6 i s h2
          exact ⟨v, h3, relS_only ((hp _ hm).2 s (List.mem_of_getElem? hs')) h4⟩
      · cases h1
    · cases h1
  · obtain ⟨c, _, rfl⟩ := heapOf_get hb
    obtain ⟨c', _, rfl⟩ := heapOf_get hb'
    rcases hown with hh | hh <;> cases hh
  · obtain ⟨c, hm, rfl⟩ := heapOf_get hb
    exact (hp _ hm).1
theorem callO_ok {F : Nat → Option HF} (hm : P.follows .mixedOrders = true) (hF : ∀ f cf, F f = some cf → okF P g f cf) {l : List (Nat × List S)} {nx : Nat} (hl : listOk l nx = true) (hg : g ≤ nx) {O : Nat → Option Bool}
    (hO : ∀ f b, O f = some b → ∃ k, callK F (run F k) f [] (stOf l nx) (saysB b) = .done .normal .leaf ⟨.leaf, 0, 0⟩) (k : Nat) : CallOk P g (callO l O (callK F (run F k))) := by
  intro f args st K x tf sf h
  unfold callO at h
  split at h
  · exact callK_ok hm hF k f args st K x tf sf h
  · rename_i b hb
    split at h
    · obtain ⟨hh, h1⟩ := ite_done h
      obtain ⟨k', hk⟩ := hO f b hb
      obtain ⟨v, st', a1, a2, a3, a4⟩ := callK_ok hm hF k' f [] (stOf l nx) (saysB b) _ _ _ hk
      obtain rfl := saysB_done a1
      refine ⟨.sc (.bool b), st, h1, Grow.refl st, a3, fun σ args' w lim ha hgl hr hfree hlim => ?_⟩
      have ha' : All2 (RelV (cut σ nx)) [] args'.toList := by
        generalize args'.toList = m at ha
        cases ha; exact .nil
      have hc := a4 (cut σ nx) args' w st'.next ha' (fun i hi => by obtain ⟨c, hc⟩ := hgl i hi; exact ⟨c, by unfold cut; rw [if_pos (by omega)]; exact hc⟩) (relH_part hr hh hl)
        (fun id h1 _ => by
          have h2 : nx ≤ id := h1
          unfold cut; rw [if_neg (by omega)]) (Nat.le_refl _)
      refine Calls.mono hc fun e w' he => ?_
      obtain ⟨v', σ', he, E, hv⟩ := he
      have hheap : ∀ B, B < w.heap.size → w'.heap[B]? = w.heap[B]? := fun B hB => E.frame B hB fun id b1 x1 hb1 ho => by
        obtain ⟨c, _, rfl⟩ := heapOf_get hb1; cases ho
      refine ⟨v', σ, he, ⟨Map.le.refl σ, fun _ _ => rfl, Nat.le_refl _, ⟨fun id b1 hb1 => ?_, hr.inj, hr.lt⟩, E.size, E.os, E.tape, E.output, E.fro, fun B hB _ => hheap B hB, fun _ _ _ => rfl, fun _ _ h => h, fun id b' _ hb' => ⟨b', hb', rfl⟩,
        fun id b1 x1 hid hb1 _ => absurd (hr.lt id b1 hb1) (by omega), fun id b1 hid hb1 => absurd (hr.lt id b1 hb1) (by omega)⟩, ?_⟩
      · have hB := hr.blk id b1 hb1
        obtain ⟨x1, hx1⟩ := hB.map
        exact hB.world hx1 (hheap _ (hB.lt hx1))
      · cases hv with
        | sc hv => cases hv; exact .sc (.bool _)
    · cases h
theorem runO_ok {F : Nat → Option HF} (hm : P.follows .mixedOrders = true) (hF : ∀ f cf, F f = some cf → okF P g f cf) {l : List (Nat × List S)} {nx : Nat} (hl : listOk l nx = true) (hg : g ≤ nx) {O : Nat → Option Bool}
    (hO : ∀ f b, O f = some b → ∃ k, callK F (run F k) f [] (stOf l nx) (saysB b) = .done .normal .leaf ⟨.leaf, 0, 0⟩) : ∀ k, CodeOk P g k (runO l O F k)
  | 0 => fun n code L hc e ok tm st x tf sf hI h => by cases h
  | k + 1 => fun n code => code_step hm (callO_ok hm hF hl hg hO k) (runO_ok hm hF hl hg hO k) code
/-- A CLOSED LAW, some of whose calls are known -/
theorem closed_lawO {W : World} {F : Nat → Option HF} (hm : P.follows .mixedOrders = true) {k f nx' nx : Nat} {laid : List (String × DataW Unit)} {l : List (Nat × List S)} {O : Nat → Option Bool} (hF : ∀ f cf, F f = some cf → okF P g f cf)
    (hgl : ∀ n g', P.globalNamed n = some g' → g' < g) (hlaid : laidCells P laid g = some (l, nx')) (hl : listOk l nx = true) (hg : g ≤ nx)
    (hO : ∀ f b, O f = some b → ∃ k, callK F (run F k) f [] (stOf l nx) (saysB b) = .done .normal .leaf ⟨.leaf, 0, 0⟩)
    (hrun : callK F (runO l O F k) f [] (stOf l nx') saysTrue = .done .normal .leaf ⟨.leaf, 0, 0⟩) (hL : laidMet P laid W) :
    Calls P f #[] W fun e w' => e = .returned (.bool true) ∧ Grown W w' := by
  obtain ⟨σ, h1, h2, h3⟩ := laid_rel hL hgl hlaid
  obtain ⟨v, st', a1, a2, _, a4⟩ := call_ok hF (runO_ok hm hF hl hg hO k) f [] (stOf l nx') saysTrue _ _ _ hrun
  refine Calls.mono (a4 σ #[] W st'.next .nil h2 h1 (h3 _) (Nat.le_refl _)) fun e w' he => ?_
  obtain ⟨v', σ', rfl, hext, hrel⟩ := he
  have hv : v = .sc (.bool true) := by
    unfold saysTrue at a1
    split at a1
    · rfl
    · cases a1
  subst hv
  cases hrel with
  | sc hr =>
    cases hr
    exact ⟨rfl, grown_of hext fun id b hb => by obtain ⟨c, _, rfl⟩ := heapOf_get hb; rfl⟩
end
end Go.Proofs.YtffaehgicojjmaaDoor.Ev
