/- More of the logic: conditions as one truth value, what loops keep, lists that grow. No conditions but those each lemma states. -/
import Derived.Test.YticfndhcbjcklaaDoorEvD
namespace Go.Proofs.YticfndhcbjcklaaDoor.Ev
set_option linter.unusedSimpArgs false
set_option linter.unusedVariables false
/-! conditions as one truth value -/
section
variable {st : St}
def ltI (a b : Int) : Bool := decide (a < b)
def leI (a b : Int) : Bool := decide (a ≤ b)
def eqI (a b : Int) : Bool := decide (a = b)
def ltN (a b : Nat) : Bool := decide (a < b)
def leN (a b : Nat) : Bool := decide (a ≤ b)
def eqN (a b : Nat) : Bool := decide (a = b)
@[simp] theorem ltI_t (a b : Int) : (ltI a b = true) = (a < b) := by simp [ltI]
@[simp] theorem ltI_f (a b : Int) : (ltI a b = false) = (b ≤ a) := by simp [ltI]
@[simp] theorem leI_t (a b : Int) : (leI a b = true) = (a ≤ b) := by simp [leI]
@[simp] theorem leI_f (a b : Int) : (leI a b = false) = (b < a) := by simp [leI]
@[simp] theorem eqI_t (a b : Int) : (eqI a b = true) = (a = b) := by simp [eqI]
@[simp] theorem eqI_f (a b : Int) : (eqI a b = false) = ¬ (a = b) := by simp [eqI]
@[simp] theorem ltN_t (a b : Nat) : (ltN a b = true) = (a < b) := by simp [ltN]
@[simp] theorem ltN_f (a b : Nat) : (ltN a b = false) = (b ≤ a) := by simp [ltN]
@[simp] theorem leN_t (a b : Nat) : (leN a b = true) = (a ≤ b) := by simp [leN]
@[simp] theorem leN_f (a b : Nat) : (leN a b = false) = (b < a) := by simp [leN]
@[simp] theorem eqN_t (a b : Nat) : (eqN a b = true) = (a = b) := by simp [eqN]
@[simp] theorem eqN_f (a b : Nat) : (eqN a b = false) = ¬ (a = b) := by simp [eqN]
@[simp] theorem ltI_1 (a b : Int) (h : a < b) : ltI a b = true := by simp [h]
@[simp] theorem ltI_0 (a b : Int) (h : b ≤ a) : ltI a b = false := by simp [h]
@[simp] theorem leI_1 (a b : Int) (h : a ≤ b) : leI a b = true := by simp [h]
@[simp] theorem leI_0 (a b : Int) (h : b < a) : leI a b = false := by simp [h]
@[simp] theorem eqI_1 (a b : Int) (h : a = b) : eqI a b = true := by simp [h]
@[simp] theorem eqI_0 (a b : Int) (h : ¬ a = b) : eqI a b = false := by simp [h]
@[simp] theorem ltN_1 (a b : Nat) (h : a < b) : ltN a b = true := by simp [h]
@[simp] theorem ltN_0 (a b : Nat) (h : b ≤ a) : ltN a b = false := by simp [h]
@[simp] theorem leN_1 (a b : Nat) (h : a ≤ b) : leN a b = true := by simp [h]
@[simp] theorem leN_0 (a b : Nat) (h : b < a) : leN a b = false := by simp [h]
@[simp] theorem eqN_1 (a b : Nat) (h : a = b) : eqN a b = true := by simp [h]
@[simp] theorem eqN_0 (a b : Nat) (h : ¬ a = b) : eqN a b = false := by simp [h]
variable (K : V → R)
@[simp 2000] theorem ieql' (a b : Int) : binK .eql (iv a) (iv b) K = K (bl (eqI a b)) := ieql a b K
@[simp 2000] theorem ineq' (a b : Int) : binK .neq (iv a) (iv b) K = K (bl (!eqI a b)) := (ineq a b K).trans (by congr 3; simp [eqI])
@[simp 2000] theorem ilss' (a b : Int) : binK .lss (iv a) (iv b) K = K (bl (ltI a b)) := ilss a b K
@[simp 2000] theorem ileq' (a b : Int) : binK .leq (iv a) (iv b) K = K (bl (leI a b)) := ileq a b K
@[simp 2000] theorem igtr' (a b : Int) : binK .gtr (iv a) (iv b) K = K (bl (ltI b a)) := igtr a b K
@[simp 2000] theorem igeq' (a b : Int) : binK .geq (iv a) (iv b) K = K (bl (leI b a)) := igeq a b K
@[simp 2000] theorem ueql' (a b : Nat) : binK .eql (uv a) (uv b) K = K (bl (eqN a b)) := ueql a b K
@[simp 2000] theorem uneq' (a b : Nat) : binK .neq (uv a) (uv b) K = K (bl (!eqN a b)) := (uneq a b K).trans (by congr 3; simp [eqN])
@[simp 2000] theorem ulss' (a b : Nat) : binK .lss (uv a) (uv b) K = K (bl (ltN a b)) := ulss a b K
@[simp 2000] theorem uleq' (a b : Nat) : binK .leq (uv a) (uv b) K = K (bl (leN a b)) := uleq a b K
@[simp 2000] theorem ugtr' (a b : Nat) : binK .gtr (uv a) (uv b) K = K (bl (ltN b a)) := ugtr a b K
@[simp 2000] theorem ugeq' (a b : Nat) : binK .geq (uv a) (uv b) K = K (bl (leN b a)) := ugeq a b K
@[simp 2000] theorem beql' (a b : Nat) : binK .eql (bv a) (bv b) K = K (bl (eqN a b)) := beql a b K
@[simp 2000] theorem bneq' (a b : Nat) : binK .neq (bv a) (bv b) K = K (bl (!eqN a b)) := (bneq a b K).trans (by congr 3; simp [eqN])
@[simp 2000] theorem blss' (a b : Nat) : binK .lss (bv a) (bv b) K = K (bl (ltN a b)) := blss a b K
@[simp 2000] theorem bleq' (a b : Nat) : binK .leq (bv a) (bv b) K = K (bl (leN a b)) := bleq a b K
@[simp 2000] theorem bgtr' (a b : Nat) : binK .gtr (bv a) (bv b) K = K (bl (ltN b a)) := bgtr a b K
@[simp 2000] theorem bgeq' (a b : Nat) : binK .geq (bv a) (bv b) K = K (bl (leN b a)) := bgeq a b K
def gf (b : Bool) (x : V) : V := bif b then .tup [] else x
def gt (b : Bool) (x : V) : V := bif b then x else .tup []
@[simp] theorem gf_t (x : V) : gf true x = .tup [] := rfl
@[simp] theorem gf_f (x : V) : gf false x = x := rfl
@[simp] theorem gt_t (x : V) : gt true x = x := rfl
@[simp] theorem gt_f (x : V) : gt false x = .tup [] := rfl
@[simp] theorem gf_gf (b : Bool) (x : V) : gf b (gf b x) = gf b x := by cases b <;> rfl
@[simp] theorem gt_gt (b : Bool) (x : V) : gt b (gt b x) = gt b x := by cases b <;> rfl
variable (j : V → St → R) (b c : Bool) (x y : V)
@[simp] theorem jf_p : jf (bl b) (fun K => K x) st j = j (gf b x) st := by cases b <;> rfl
@[simp] theorem jt_p : jt (bl b) (fun K => K x) st j = j (gt b x) st := by cases b <;> rfl
@[simp] theorem mf_p : mf (bl b) x st j = j (gf b x) st := by cases b <;> rfl
@[simp] theorem mt_p : mt (bl b) x st j = j (gt b x) st := by cases b <;> rfl
variable {j b c x y K}
@[congr] theorem jf_congr {o o' : (V → R) → R} (h : b = false → ∀ k, o k = o' k) : jf (bl b) o st j = jf (bl b) o' st j := by
  cases b
  · show o _ = o' _; exact h rfl _
  · rfl
@[congr] theorem jt_congr {o o' : (V → R) → R} (h : b = true → ∀ k, o k = o' k) : jt (bl b) o st j = jt (bl b) o' st j := by
  cases b
  · rfl
  · show o _ = o' _; exact h rfl _
@[simp] theorem jt_gf (o : (V → R) → R) : jt (gf b (bl c)) o st j = jt (bl (!b && c)) o st j := by cases b <;> rfl
@[simp] theorem jt_gt (o : (V → R) → R) : jt (gt b (bl c)) o st j = jt (bl (b && c)) o st j := by cases b <;> rfl
@[simp] theorem jf_gf (o : (V → R) → R) : jf (gf b (bl c)) o st j = jf (bl (b || c)) o st j := by cases b <;> rfl
@[simp] theorem jf_gt (o : (V → R) → R) : jf (gt b (bl c)) o st j = jf (bl (!b || c)) o st j := by cases b <;> rfl
@[simp] theorem mt_gf : mt (gf b (bl c)) x st j = mt (bl (!b && c)) x st j := by cases b <;> rfl
@[simp] theorem mt_gt : mt (gt b (bl c)) x st j = mt (bl (b && c)) x st j := by cases b <;> rfl
@[simp] theorem mf_gf : mf (gf b (bl c)) x st j = mf (bl (b || c)) x st j := by cases b <;> rfl
@[simp] theorem mf_gt : mf (gt b (bl c)) x st j = mf (bl (!b || c)) x st j := by cases b <;> rfl
@[simp] theorem pck_or : pck (bl b) (bl true) (gf b (bl c)) K = K (bl (b || c)) := by cases b <;> rfl
@[simp] theorem pck_and : pck (bl b) (gt b (bl c)) (bl false) K = K (bl (b && c)) := by cases b <;> rfl
end
@[simp] theorem is_fold (x : Int) : S.int .i64 x = is x := rfl
theorem idxV_sc {st : St} {len j : Nat} {l : List S} {x : S} (c : CallK) (r : Ev) (K : V → St → R) (h : j < len) (hx : l[j]? = some x) : h_op2_idxV len 1 false (.c (.agg l)) (.c (iv j)) c r st K = K (.sc x) st := by
  show iteB (Nat.blt j len) (Option.rec (motive := fun _ => R) (.fail 72) (fun s => K (.sc s) st) (l[j * 1]?)) (.fail 79) = _
  rw [show Nat.blt j len = true from Nat.ble_eq_true_of_le h, iteB_true, Nat.mul_one, hx]
theorem okH_all {al lm sm hv : Nat} {ll ss : List (Nat × Nat)} {pre : Nat} (h1 : sub' al pre = true) (h2 : sub' sm pre = true) : okH ⟨al, lm, sm, hv, [], ll, ss⟩ pre = true := by
  show and' true (and' (sub' sm pre) (sub' al pre)) = true
  rw [h1, h2]; rfl
@[simp] theorem dw2_all {id off : Nat} {al lm sm hv : Nat} {ll ss : List (Nat × Nat)} {n0 bit pre : Nat} (o : (V → St → R) → R) (K : V → Mk → St → R) (h1 : sub' al pre = true) (h2 : sub' sm pre = true) :
    dw2 n0 ⟨al, lm, sm, hv, [], ll, ss⟩ bit pre (.sc (.ptr id off)) o K = o fun v st => K v ⟨al, lm ||| bit, sm, hv, [], (bit, id) :: ll, ss⟩ st := by
  show iteB (okL _ n0 pre id) (o fun v st => mkL _ bit id fun mk => K v mk st) (.fail 87) = _
  rw [okL_all h1 h2, iteB_true]
  congr 1
  funext v st
  exact mkL_mk ..
theorem sat_of_rd' {st : St} {id off z k : Nat} {o : Option Nat} {cs : List S} (h0 : 0 < k * z) (hl : cs.length = k * z) (hc : ∀ m, o = some m → k ≤ m) (h : ∀ i x, cs[i]? = some x → Ev.rd st id (off + i) = some x) : Sat st (.slice id off k o z) k z cs := by
  have h1 := h 0 _ (List.getElem?_eq_getElem (by omega))
  unfold Ev.rd at h1
  cases hb : st.heap.get id with
  | none => rw [hb] at h1; cases h1
  | some b => exact ⟨hl, .inr ⟨id, off, o, b, rfl, hc, hb, fun i x hx => by have h2 := h i x hx; unfold Ev.rd at h2; rw [hb] at h2; exact h2⟩⟩
theorem Own.fr {s t : St} {id n : Nat} (h : Own s id n) (k : Fr s t) : Own t id n := by
  obtain ⟨b, h1, h2⟩ := h; exact ⟨b, k.old id b h1, h2⟩
theorem Own.kp {s t : St} {id n : Nat} {o : Option Nat} (h : Own s id n) (k : Kp o s t) (ho : o ≠ some id) : Own t id n := by
  obtain ⟨b, h1, h2⟩ := h; exact ⟨b, k.old id b ho h1, h2⟩
/-- a call in a region that draws -/
theorem Rg.dc {C : Nat → CallK} {s : St} {al lm sm hv : Nat} {ll ss : List (Nat × Nat)} {bit pre f : Nat} {args : List V} (P1 : V → Prop) {P : List V → St → Prop} {G : CallK → (List V → St → R) → V → Mk → St → R} (hw : WfS s) (h1 : sub' al pre = true) (h2 : sub' sm pre = true)
    (h : Ca C f args (setLow s s.next) (fun v s' => Fr (setLow s s.next) s' ∧ P1 v)) (k : ∀ v s', Fr s s' → P1 v → Rg C (fun c K => G c K v ⟨al ||| bit, lm, sm, hv ||| bit, [], ll, ss⟩ s') P) : Rg C (fun c K => Ev.dw3 ⟨al, lm, sm, hv, [], ll, ss⟩ bit pre s (fun s q => c f args s q) (G c K)) P :=
  Rg.dw3 hw (okH_all h1 h2) h fun v s' k1 k2 => by simp only [mkH_mk]; exact k v s' k1 k2
theorem Rg.imp {C : Nat → CallK} {X : CallK → (List V → St → R) → R} {P P' : List V → St → Prop} (h : Rg C X P) (hp : ∀ l s, P l s → P' l s) : Rg C X P' := by
  obtain ⟨l, s, h1, h2⟩ := h; exact ⟨l, s, hp l s h1, h2⟩
theorem Rg.hide {C : Nat → CallK} {X : CallK → (List V → St → R) → R} {P : List V → St → Prop} (h : ∀ P' : List V → St → Prop, (∀ l s, P l s → P' l s) → Rg C X P') : Rg C X P := h P fun l s h => h
/-! what comes behind a region, out of simp's sight -/
section
variable {C : Nat → CallK} {ρ : Ev} {st : St} {Q : X → Ev → St → Prop} {b : HC} {f : RF} {outs : List Pth}
theorem Ru.rs (h : ∀ P : List V → St → Prop, (∀ l s, Ru C b (updE outs l ρ) s Q → P l s) → Rg C (fun c K => f c ρ st K) P) : Ru C (.seq (.reg outs f) b) ρ st Q := Ru.sreg (h _ fun l s h => h)
theorem Ru.ds (h : ∀ P : List V → St → Prop, (∀ l s, Ru C b (updE outs l ρ) s Q → P l s) → Rg C (fun c K => f c ρ st K) P) : Ru C (.seq (.drw outs f) b) ρ st Q := Ru.sdrw (h _ fun l s h => h)
theorem Ru.r1 (h : ∀ P : List V → St → Prop, (∀ l s, Q .normal (updE outs l ρ) s → P l s) → Rg C (fun c K => f c ρ st K) P) : Ru C (.reg outs f) ρ st Q := Ru.reg (h _ fun l s h => h)
theorem Ru.d1 (h : ∀ P : List V → St → Prop, (∀ l s, Q .normal (updE outs l ρ) s → P l s) → Rg C (fun c K => f c ρ st K) P) : Ru C (.drw outs f) ρ st Q := Ru.drw (h _ fun l s h => h)
end
end Go.Proofs.YticfndhcbjcklaaDoor.Ev
namespace Go.Proofs.YticfndhcbjcklaaDoor.Ev
set_option linter.unusedVariables false
/-! what a loop leaves alone -/
noncomputable def qmem (q : Pth) (l : List Pth) : Bool := List.rec (motive := fun _ => Bool) false (fun p _ ih => or' (pthEq q p) ih) l
noncomputable def qsub (l m : List Pth) : Bool := List.rec (motive := fun _ => Bool) true (fun p _ ih => and' (qmem p m) ih) l
noncomputable def qoff (l m : List Pth) : Bool := List.rec (motive := fun _ => Bool) true (fun p _ ih => and' (iteB (qmem p m) false true) ih) l
def Keep (l : List Pth) (ρ' ρ : Ev) : Prop := ∀ q, qmem q l = true → ρ' q = ρ q
theorem Keep.e {l : List Pth} {ρ' ρ : Ev} (h : Keep l ρ' ρ) : ∀ q, qmem q l = true → ρ' q = ρ q := h
theorem Keep.refl (l : List Pth) (ρ : Ev) : Keep l ρ ρ := fun _ _ => rfl
theorem qmem_iff {q : Pth} : ∀ {l : List Pth}, qmem q l = true ↔ q ∈ l
  | [] => ⟨fun h => (by cases h), fun h => (by cases h)⟩
  | p :: l => by
    show or' (pthEq q p) (qmem q l) = true ↔ _
    rw [List.mem_cons, ← qmem_iff (l := l), ← pthEq_iff]
    cases pthEq q p <;> cases qmem q l <;> simp [or']
theorem qsub_iff {m : List Pth} : ∀ {l : List Pth}, qsub l m = true → ∀ q ∈ l, q ∈ m
  | [], _ => fun q h => by cases h
  | p :: l, h => by
    have h : and' (qmem p m) (qsub l m) = true := h
    have h1 : qmem p m = true ∧ qsub l m = true := by
      cases h1 : qmem p m <;> cases h2 : qsub l m <;> rw [h1, h2] at h <;> first | exact ⟨rfl, rfl⟩ | cases h
    intro q hq
    rcases List.mem_cons.1 hq with rfl | hq
    · exact qmem_iff.1 h1.1
    · exact qsub_iff h1.2 q hq
theorem qoff_iff {m : List Pth} : ∀ {l : List Pth}, qoff l m = true → ∀ q ∈ l, q ∉ m
  | [], _ => fun q h => by cases h
  | p :: l, h => by
    have h : and' (iteB (qmem p m) false true) (qoff l m) = true := h
    have h1 : qmem p m = false ∧ qoff l m = true := by
      cases h1 : qmem p m <;> cases h2 : qoff l m <;> rw [h1, h2] at h <;> first | exact ⟨rfl, rfl⟩ | cases h
    intro q hq
    rcases List.mem_cons.1 hq with rfl | hq
    · intro hm; rw [qmem_iff.2 hm] at h1; cases h1.1
    · exact qoff_iff h1.2 q hq
theorem updE_off : ∀ {outs : List Pth} {vs : List V} {ρ : Ev} {q : Pth}, q ∉ outs → updE outs vs ρ q = ρ q
  | [], _, _, _, _ => rfl
  | _ :: _, [], _, _, _ => rfl
  | p :: ps, v :: vs, ρ, q, h => by
    rw [updE_cons, updE_off (fun hq => h (List.mem_cons_of_mem _ hq)), upd_other _ _ (fun he => h (by rw [he]; exact List.mem_cons_self))]
theorem Keep.up {l outs : List Pth} {vs : List V} {ρ1 ρ : Ev} (hs : qoff outs l = true) (h : Keep l ρ1 ρ) : Keep l (updE outs vs ρ1) ρ := fun q hq => by
  rw [updE_off (fun ho => qoff_iff hs q ho (qmem_iff.1 hq))]; exact h q hq
theorem Keep.via {l m : List Pth} {ρ2 ρ1 ρ : Ev} (hs : qsub l m = true) (k : Keep m ρ2 ρ1) (h : Keep l ρ1 ρ) : Keep l ρ2 ρ := fun q hq => by
  rw [k q (qmem_iff.2 (qsub_iff hs q (qmem_iff.1 hq)))]; exact h q hq
/-- a loop that leaves some tmps alone -/
theorem Ru.lp {C : Nat → CallK} {α : Type} (l : List Pth) (m : α → Nat) (I : α → Ev → St → Prop) {b : HC} {ρ : Ev} {st : St} {Q : X → Ev → St → Prop}
    (hI : ∃ a, I a ρ st) (h : ∀ a ρ' s, Keep l ρ' ρ → I a ρ' s → Ru C b ρ' s (Then (fun ρ'' s => Keep l ρ'' ρ ∧ ∃ a', m a' < m a ∧ I a' ρ'' s) Q)) : Ru C (.loop b) ρ st Q := by
  obtain ⟨a, ha⟩ := hI
  refine Ru.loop m (fun a ρ' s => Keep l ρ' ρ ∧ I a ρ' s) ⟨a, Keep.refl _ _, ha⟩ fun a ρ' s hI => ?_
  refine (h a ρ' s hI.1 hI.2).imp fun x ρ'' s hx => ?_
  cases x with
  | normal => obtain ⟨h1, a', h2, h3⟩ := hx; exact ⟨a', h2, h1, h3⟩
  | exit i => exact hx
  | ret => exact hx
theorem Ru.at {C : Nat → CallK} {b : HC} {ρ : Ev} {st : St} {Q : X → Ev → St → Prop} (I : Ev → Prop) (hI : I ρ) (h : ∀ ρ, I ρ → Ru C b ρ st Q) : Ru C b ρ st Q := h _ hI
end Go.Proofs.YticfndhcbjcklaaDoor.Ev
namespace Go.Proofs.YticfndhcbjcklaaDoor.Ev
set_option linter.unusedSimpArgs false
set_option linter.unusedVariables false
/-! appending what was just built -/
end Go.Proofs.YticfndhcbjcklaaDoor.Ev
namespace Go.Proofs.YticfndhcbjcklaaDoor.Ev
set_option linter.unusedSimpArgs false
set_option linter.unusedVariables false
variable {s t st : St} {id i n : Nat} {l : List S}
/-! a variable in memory: its cells, one behind the other -/
structure Bx (s : St) (id : Nat) (l : List S) : Prop where
  own : Own s id l.length
  rd : ∀ i y, l[i]? = some y → rd s id i = some y
  lt : id < s.next
theorem Bx.fr (h : Bx s id l) (k : Fr s t) : Bx t id l := ⟨h.own.fr k, fun i y hy => k.rd (h.rd i y hy), Nat.lt_of_lt_of_le h.lt k.next⟩
theorem Bx.kp {o : Option Nat} (h : Bx s id l) (k : Kp o s t) (ho : o ≠ some id) : Bx t id l := ⟨h.own.kp k ho, fun i y hy => k.rd ho (h.rd i y hy), Nat.lt_of_lt_of_le h.lt k.next⟩
theorem Bx.new : Bx (new s l) s.next l := ⟨Own.new, fun i y hy => by rw [rd_new, if_pos rfl]; exact hy, by simp⟩
theorem Bx.mk' {z : List S} (h : l.length = z.length) : Bx (wr (Ev.new s z) s.next 0 l) s.next l := by
  refine ⟨?_, fun i y hy => by rw [rd_mk h, if_pos rfl]; exact hy, by simp⟩
  have := Own.wr (id := s.next) (off := 0) (l := l) (Own.new (st := s) (l := z))
  rw [h]; exact this
theorem Bx.N (h : Bx s id l) (hn : l.length = n) : rdN s id 0 n = some l := rdN_get hn fun i x hx => by rw [Nat.zero_add]; exact h.rd i x hx
theorem Bx.sto (h : Bx s id l) (hi : i < l.length) (x : S) (K : St → R) : sto s 1 (.sc (.ptr id i)) (.sc x) K = K (wr s id i [x]) := sto_sc K h.own (by omega)
theorem Bx.set (h : Bx s id l) (hi : i < l.length) (x : S) : Bx (wr s id i [x]) id (l.set i x) := by
  refine ⟨by rw [List.length_set]; exact h.own.wr, fun j y hy => ?_, by rw [wr_next]; exact h.lt⟩
  rw [rd_wr h.own (by simp; omega)]
  by_cases hij : j = i
  · subst hij
    rw [if_pos ⟨rfl, Nat.le_refl _, by simp⟩]
    rw [List.getElem?_set_self hi] at hy
    cases hy; simp
  · rw [if_neg (by simp; omega)]
    rw [List.getElem?_set_ne (by omega)] at hy
    exact h.rd j y hy
theorem Bx.kpw (h : Bx s id l) (hw : WfS s) (x : List S) : Kp (some id) s (wr s id i x) := kp_wr hw h.lt
theorem Bx.stoN (h : Bx s id l) {l' : List S} (hn : l'.length = n) (hl : l.length = n) (K : St → R) : Ev.sto s n (.sc (.ptr id 0)) (.agg l') K = K (wr s id 0 l') := by
  subst hn
  exact sto_agg K h.own (by omega)
theorem Bx.setN (h : Bx s id l) {l' : List S} (hl : l'.length = l.length) : Bx (wr s id 0 l') id l' := by
  refine ⟨by rw [hl]; exact h.own.wr, fun j y hy => ?_, by rw [wr_next]; exact h.lt⟩
  have hj := (List.getElem?_eq_some_iff.1 hy).1
  rw [rd_wr h.own (by omega), if_pos ⟨rfl, Nat.zero_le _, by omega⟩]
  exact hy
theorem resP.cellsTmp {p q : Pth} {n : Nat} {ρ : Ev} {st : St} {P : V → St → Prop} {id off : Nat} {l : List S} {b : S} (hp : ρ p = .sc (.ptr id off)) (hr : rdN st id off (n + 1) = some l) (hb : ρ q = .sc b) (h : P (.tup [(true, l), (false, [b])]) st) : resP [.cellN (n + 1) p, .tmp q] ρ st P :=
  ⟨_, h, fun K tm ht => by
    show asPtr 91 (rho tm p) (fun id off => loadNK st (n + 1) id off fun v => fin1 K st [v, rho tm q]) = _
    rw [ht, hp, hb]
    show loadNK st (n + 1) id off _ = _
    rw [loadNK_eq, hr]; rfl⟩
end Go.Proofs.YticfndhcbjcklaaDoor.Ev
namespace Go.Proofs.YticfndhcbjcklaaDoor.Ev
set_option linter.unusedSimpArgs false
set_option linter.unusedVariables false
variable {st s t : St} {id off i n : Nat}
theorem ne_some {a b : Nat} (h : a ≠ b) : some a ≠ some b := fun he => by cases he; exact h rfl
/-! stores in regions that draw -/
theorem clear_ne {pre id b j : Nat} {l : List (Nat × Nat)} (h : j ≠ id) : clear pre id ((b, j) :: l) = clear pre id l := by
  show iteB (Nat.beq j id) _ _ = _
  rw [show Nat.beq j id = false by rw [← Bool.not_eq_true]; intro hh; exact h (Nat.eq_of_beq_eq_true hh), iteB_false]; rfl
theorem clear_sub {pre id b j : Nat} {l : List (Nat × Nat)} (h : sub' b pre = true) : clear pre id ((b, j) :: l) = clear pre id l := by
  show iteB (Nat.beq j id) (and' (sub' b pre) (clear pre id l)) (clear pre id l) = _
  rw [h]
  cases Nat.beq j id <;> rfl
theorem clear_all {pre id m : Nat} {l : List (Nat × Nat)} (h : ∀ p ∈ l, p.2 ≠ id ∨ sub' p.1 pre = true) : clear pre id l = true := by
  induction l with
  | nil => rfl
  | cons p l ih =>
    obtain ⟨b, j⟩ := p
    rcases h (b, j) List.mem_cons_self with h1 | h1
    · rw [clear_ne h1]; exact ih fun p hp => h p (List.mem_cons_of_mem _ hp)
    · rw [clear_sub h1]; exact ih fun p hp => h p (List.mem_cons_of_mem _ hp)
theorem okS_of {al lm sm hv : Nat} {ll ss : List (Nat × Nat)} {n0 pre id : Nat} (h1 : sub' hv pre = true) (h2 : sub' al pre = true ∨ id < n0) (h3 : sub' sm pre = true ∨ clear pre id ss = true) (h4 : sub' lm pre = true ∨ clear pre id ll = true) : okS ⟨al, lm, sm, hv, [], ll, ss⟩ n0 pre id = true := by
  show and' (sub' hv pre) (and' (or' (sub' al pre) (Nat.blt id n0)) (and' (or' (sub' sm pre) (clear pre id ss)) (or' (sub' lm pre) (clear pre id ll)))) = true
  have e2 : or' (sub' al pre) (Nat.blt id n0) = true := by
    rcases h2 with h | h
    · rw [h]; rfl
    · rw [show Nat.blt id n0 = true from Nat.ble_eq_true_of_le h]; cases sub' al pre <;> rfl
  have e3 : or' (sub' sm pre) (clear pre id ss) = true := by
    rcases h3 with h | h
    · rw [h]; rfl
    · rw [h]; cases sub' sm pre <;> rfl
  have e4 : or' (sub' lm pre) (clear pre id ll) = true := by
    rcases h4 with h | h
    · rw [h]; rfl
    · rw [h]; cases sub' lm pre <;> rfl
  rw [h1, e2, e3, e4]; rfl
theorem okS_t {al lm sm hv : Nat} {ll ss : List (Nat × Nat)} {n0 pre id : Nat} (h1 : and' (sub' hv pre) (and' (sub' al pre) (sub' sm pre)) = true) (h4 : ∀ p ∈ ll, p.2 ≠ id ∨ sub' p.1 pre = true) : okS ⟨al, lm, sm, hv, [], ll, ss⟩ n0 pre id = true := by
  have h : sub' hv pre = true ∧ sub' al pre = true ∧ sub' sm pre = true := by
    revert h1
    cases sub' hv pre <;> cases sub' al pre <;> cases sub' sm pre <;> intro h1 <;> first | exact ⟨rfl, rfl, rfl⟩ | cases h1
  exact okS_of h.1 (.inl h.2.1) (.inl h.2.2) (.inr (clear_all (m := 0) h4))
theorem dS_ok {al lm sm hv : Nat} {ll ss : List (Nat × Nat)} {n0 bit pre : Nat} (ho : Own st id n) (hm : off + 1 ≤ n) (x : S) (K : V → Mk → St → R) (h : okS ⟨al, lm, sm, hv, [], ll, ss⟩ n0 pre id = true) :
    dS n0 ⟨al, lm, sm, hv, [], ll, ss⟩ bit pre st 1 (.sc (.ptr id off)) (.sc x) K = K undefV ⟨al, lm, sm ||| bit, hv, [], ll, (bit, id) :: ss⟩ (wr st id off [x]) := by
  show iteB (okS _ n0 pre id) (sto st 1 (.sc (.ptr id off)) (.sc x) (fun st => mkS _ bit id fun mk => K undefV mk st)) (.fail 88) = _
  rw [h, iteB_true, sto_sc _ ho hm]
  show mkS _ bit id _ = _
  rw [mkS_eq]; rfl
/-- what was just built, appended -/
theorem app_bld {y : S} {n z b k a : Nat} {cs nc : List S} (hw : WfS st) (hs : Sat st y n z cs) (hg : Grw a st y n z) (ha : a ≤ st.next) (hk : 0 < k) (hn : nc.length = k * z) (hb : (4 * (n + k) + 4096) * b ≤ 281474976710656) (hl : n + k ≤ 9223372036854775807) :
    ∃ y' st', (∀ (c : CallK) (r : Ev) (K : V → St → R), xA z b (.sc y) (.sc (.slice st.next 0 k (some k) z)) c r (new st nc) K = K (.sc y') st') ∧ Sat st' y' (n + k) z (cs ++ nc) ∧ Grw a st' y' (n + k) z ∧ Kp (sid y) st st' ∧ sid y' = some (st.next + 1) ∧ st'.next = st.next + 2 := by
  have f1 : Fr st (new st nc) := (Fr.refl hw).new _
  have hs1 : Sat (new st nc) (.slice st.next 0 k (some k) z) k z nc := Sat.new hn fun m h => by cases h; exact Nat.le_refl _
  obtain ⟨y2, s2, hA, g1, g2, g3, g4, g5⟩ := app_ok (b := b) f1.wf (hs.fr f1) (hg.fr f1) (Nat.le_trans ha f1.next) hs1.1 hk hb hl
  refine ⟨y2, s2, fun c r K => ?_, g1, g2, ((Fr.refl hw).new nc |>.kp _).trans g3, g4, g5⟩
  rw [xA_sat hs1, hA]
/-! append where there is room -/
theorem app_cap {n z b k c : Nat} {cs nc : List S} (hs : Sat st (.slice id 0 n (some c) z) n z cs) (ho : Own st id (c * z)) (hk : 0 < k) (hn : nc.length = k * z) (hc : n + k ≤ c) (hb : (4 * (n + k) + 4096) * b ≤ 281474976710656) (hl : n + k ≤ 9223372036854775807) :
    (∀ K, appendK st z b k nc K (.slice id 0 n (some c) z) = K (.sc (.slice id 0 (n + k) (some c) z)) (wr st id (n * z) nc)) ∧ Sat (wr st id (n * z) nc) (.slice id 0 (n + k) (some c) z) (n + k) z (cs ++ nc) := by
  have hle : n * z + k * z ≤ c * z := by rw [← Nat.add_mul]; exact Nat.mul_le_mul_right _ hc
  constructor
  · intro K
    show iteB (Nat.beq k 0) _ (iteB (Nat.ble (Nat.mul (Nat.add (Nat.mul 4 (Nat.add n k)) 4096) b) 281474976710656) (iteB (Nat.ble (Nat.add n k) 9223372036854775807) (iteB (Nat.beq z z) (iteB (Nat.ble (Nat.add n k) c) (storeK st id (Nat.add 0 (Nat.mul n z)) nc fun st => seqN (Nat.add n k) fun n => K (.sc (.slice id 0 n (some c) z)) st) _) _) _) _) = _
    rw [show Nat.beq k 0 = false by rw [← Bool.not_eq_true]; intro hh; have := Nat.eq_of_beq_eq_true hh; omega, iteB_false, show Nat.ble (Nat.mul (Nat.add (Nat.mul 4 (Nat.add n k)) 4096) b) 281474976710656 = true from Nat.ble_eq_true_of_le hb, iteB_true, show Nat.ble (Nat.add n k) 9223372036854775807 = true from Nat.ble_eq_true_of_le hl, iteB_true, Nat.beq_refl, iteB_true, show Nat.ble (Nat.add n k) c = true from Nat.ble_eq_true_of_le hc, iteB_true]
    rw [show Nat.add 0 (Nat.mul n z) = n * z from Nat.zero_add _, sto_ok _ ho (by omega), seqN_eq]; rfl
  · refine sat_of_rd ho.wr (by rw [List.length_append, hs.1, hn, Nat.add_mul]) (fun m hm => by cases hm; exact hc) fun i x hx => ?_
    rw [Nat.zero_add, rd_wr ho (by omega)]
    by_cases hi : i < cs.length
    · rw [List.getElem?_append_left hi] at hx
      rw [if_neg (by have := hs.1; omega)]
      have hn0 : 0 < n := by
        rcases Nat.eq_zero_or_pos n with h | h
        · subst h; have := hs.1; omega
        · exact h
      obtain ⟨_, _, _, he, hh⟩ := hs.rd hn0
      cases he
      have := hh i x hx
      rwa [Nat.zero_add] at this
    · rw [List.getElem?_append_right (by omega)] at hx
      have hj := (List.getElem?_eq_some_iff.1 hx).1
      have hcl := hs.1
      rw [if_pos ⟨rfl, by omega, by omega⟩, ← hcl]; exact hx
/-! functions that captured -/
theorem uncap_caps (f : Nat) (hf : Nat.blt f yBase = true) : ∀ l : List S, uncap (capsOf f l) = some (f, l.map V.sc)
  | [] => by show uncap (.fn f) = _; unfold uncap; rw [hf]; rfl
  | x :: r => by
    show uncap (.cap x (capsOf f r)) = _
    unfold uncap
    rw [uncap_caps f hf r]
    show (match Nat.blt f yBase with | true => some (f, V.sc x :: r.map V.sc) | false => none) = _
    rw [hf]; rfl
theorem callV_cap (f : Nat) (hf : Nat.blt f yBase = true) (l : List S) (v : V) (c : CallK) (r : Ev) (K : V → St → R) : h_op4_callV (.c (.sc (capsOf f l))) [.c v] c r st K = c f (v :: l.map V.sc) st K := by
  show (match uncap (capsOf f l) with | some (f, l) => evL r [.c v] fun a => seqL (a ++ l) fun a => c f a st K | none => .fail 51) = _
  rw [uncap_caps f hf l]
  show seqL ([v] ++ l.map V.sc) (fun a => c f a st K) = _
  rw [seqL_eq]; rfl
/-! equality of flat values -/
def IntK (x y : S) : Prop := ∃ k m n, x = .int k m ∧ y = .int k n
end Go.Proofs.YticfndhcbjcklaaDoor.Ev
namespace Go.Proofs.YticfndhcbjcklaaDoor.Ev
set_option linter.unusedSimpArgs false
set_option linter.unusedVariables false
variable {st s t : St} {n i id off : Nat}
/-! numbers; stores -/
@[simp] theorem cnv_u8 (n : Nat) (K : V → R) : cnv .u8 (uv n) K = K (bv (n % 256)) := by
  show intK .u8 (n : Int) K = _
  rw [intK_eq]
  have h : IntKind.u8.wrap (n : Int) = ((n % 256 : Nat) : Int) := by
    unfold IntKind.wrap
    simp [IntKind.bits, IntKind.signed]
  rw [h]; rfl
@[simp] theorem ixA_u (len z : Nat) {x : Nat} (K : V → R) (h' : x < len) : ixA len z (.sc (.ptr id off)) (uv x) K = K (.sc (.ptr id (off + x * z))) := by
  have h1 : Nat.blt x len = true := Nat.ble_eq_true_of_le h'
  show iteB (Nat.blt x len) (seqN (Nat.add off (Nat.mul x z)) fun o => K (.sc (.ptr id o))) (.fail 74) = _
  rw [h1, iteB_true, seqN_eq]; rfl
theorem dS_agg {al lm sm hv : Nat} {ll ss : List (Nat × Nat)} {n0 bit pre m : Nat} {l : List S} (ho : Own st id n) (hm : off + l.length ≤ n) (hl : l.length = m) (K : V → Mk → St → R) (h : okS ⟨al, lm, sm, hv, [], ll, ss⟩ n0 pre id = true) :
    dS n0 ⟨al, lm, sm, hv, [], ll, ss⟩ bit pre st m (.sc (.ptr id off)) (.agg l) K = K undefV ⟨al, lm, sm ||| bit, hv, [], ll, (bit, id) :: ss⟩ (wr st id off l) := by
  subst hl
  show iteB (okS _ n0 pre id) (sto st l.length (.sc (.ptr id off)) (.agg l) (fun st => mkS _ bit id fun mk => K undefV mk st)) (.fail 88) = _
  rw [h, iteB_true, sto_agg _ ho hm]
  show mkS _ bit id _ = _
  rw [mkS_eq]; rfl
end Go.Proofs.YticfndhcbjcklaaDoor.Ev
