/- More of the logic: conditions as one truth value, what loops keep, lists that grow. No conditions but those each lemma states. -/
import Derived.Test.YtebbnkahklbhiaaGreatDoorEvD
namespace Go.Proofs.YtebbnkahklbhiaaGreatDoor.Ev
set_option linter.unusedSimpArgs false
set_option linter.unusedVariables false
/-! conditions as one truth value -/
section
variable {st : St}
def ltI (a b : Int) : Bool := decide (a < b)
def leI (a b : Int) : Bool := decide (a ≤ b)
def eqI (a b : Int) : Bool := decide (a = b)
def ltN (a b : Nat) : Bool := decide (a < b)
def leN (a b : Nat) : Bool := decide (a ≤ b)
def eqN (a b : Nat) : Bool := decide (a = b)
@[simp] theorem ltI_t (a b : Int) : (ltI a b = true) = (a < b) := by simp [ltI]
@[simp] theorem ltI_f (a b : Int) : (ltI a b = false) = (b ≤ a) := by simp [ltI]
@[simp] theorem leI_t (a b : Int) : (leI a b = true) = (a ≤ b) := by simp [leI]
@[simp] theorem leI_f (a b : Int) : (leI a b = false) = (b < a) := by simp [leI]
@[simp] theorem eqI_t (a b : Int) : (eqI a b = true) = (a = b) := by simp [eqI]
@[simp] theorem eqI_f (a b : Int) : (eqI a b = false) = ¬ (a = b) := by simp [eqI]
@[simp] theorem ltN_t (a b : Nat) : (ltN a b = true) = (a < b) := by simp [ltN]
@[simp] theorem ltN_f (a b : Nat) : (ltN a b = false) = (b ≤ a) := by simp [ltN]
@[simp] theorem leN_t (a b : Nat) : (leN a b = true) = (a ≤ b) := by simp [leN]
@[simp] theorem leN_f (a b : Nat) : (leN a b = false) = (b < a) := by simp [leN]
@[simp] theorem eqN_t (a b : Nat) : (eqN a b = true) = (a = b) := by simp [eqN]
@[simp] theorem eqN_f (a b : Nat) : (eqN a b = false) = ¬ (a = b) := by simp [eqN]
@[simp] theorem ltI_1 (a b : Int) (h : a < b) : ltI a b = true := by simp [h]
@[simp] theorem ltI_0 (a b : Int) (h : b ≤ a) : ltI a b = false := by simp [h]
@[simp] theorem leI_1 (a b : Int) (h : a ≤ b) : leI a b = true := by simp [h]
@[simp] theorem leI_0 (a b : Int) (h : b < a) : leI a b = false := by simp [h]
@[simp] theorem eqI_1 (a b : Int) (h : a = b) : eqI a b = true := by simp [h]
@[simp] theorem eqI_0 (a b : Int) (h : ¬ a = b) : eqI a b = false := by simp [h]
@[simp] theorem ltN_1 (a b : Nat) (h : a < b) : ltN a b = true := by simp [h]
@[simp] theorem ltN_0 (a b : Nat) (h : b ≤ a) : ltN a b = false := by simp [h]
@[simp] theorem leN_1 (a b : Nat) (h : a ≤ b) : leN a b = true := by simp [h]
@[simp] theorem leN_0 (a b : Nat) (h : b < a) : leN a b = false := by simp [h]
@[simp] theorem eqN_1 (a b : Nat) (h : a = b) : eqN a b = true := by simp [h]
@[simp] theorem eqN_0 (a b : Nat) (h : ¬ a = b) : eqN a b = false := by simp [h]
variable (K : V → R)
@[simp 2000] theorem ieql' (a b : Int) : binK .eql (iv a) (iv b) K = K (bl (eqI a b)) := ieql a b K
@[simp 2000] theorem ineq' (a b : Int) : binK .neq (iv a) (iv b) K = K (bl (!eqI a b)) := (ineq a b K).trans (by congr 3; simp [eqI])
@[simp 2000] theorem ilss' (a b : Int) : binK .lss (iv a) (iv b) K = K (bl (ltI a b)) := ilss a b K
@[simp 2000] theorem ileq' (a b : Int) : binK .leq (iv a) (iv b) K = K (bl (leI a b)) := ileq a b K
@[simp 2000] theorem igtr' (a b : Int) : binK .gtr (iv a) (iv b) K = K (bl (ltI b a)) := igtr a b K
@[simp 2000] theorem igeq' (a b : Int) : binK .geq (iv a) (iv b) K = K (bl (leI b a)) := igeq a b K
@[simp 2000] theorem ueql' (a b : Nat) : binK .eql (uv a) (uv b) K = K (bl (eqN a b)) := ueql a b K
@[simp 2000] theorem uneq' (a b : Nat) : binK .neq (uv a) (uv b) K = K (bl (!eqN a b)) := (uneq a b K).trans (by congr 3; simp [eqN])
@[simp 2000] theorem ulss' (a b : Nat) : binK .lss (uv a) (uv b) K = K (bl (ltN a b)) := ulss a b K
@[simp 2000] theorem uleq' (a b : Nat) : binK .leq (uv a) (uv b) K = K (bl (leN a b)) := uleq a b K
@[simp 2000] theorem ugtr' (a b : Nat) : binK .gtr (uv a) (uv b) K = K (bl (ltN b a)) := ugtr a b K
@[simp 2000] theorem ugeq' (a b : Nat) : binK .geq (uv a) (uv b) K = K (bl (leN b a)) := ugeq a b K
@[simp 2000] theorem beql' (a b : Nat) : binK .eql (bv a) (bv b) K = K (bl (eqN a b)) := beql a b K
@[simp 2000] theorem bneq' (a b : Nat) : binK .neq (bv a) (bv b) K = K (bl (!eqN a b)) := (bneq a b K).trans (by congr 3; simp [eqN])
@[simp 2000] theorem blss' (a b : Nat) : binK .lss (bv a) (bv b) K = K (bl (ltN a b)) := blss a b K
@[simp 2000] theorem bleq' (a b : Nat) : binK .leq (bv a) (bv b) K = K (bl (leN a b)) := bleq a b K
@[simp 2000] theorem bgtr' (a b : Nat) : binK .gtr (bv a) (bv b) K = K (bl (ltN b a)) := bgtr a b K
@[simp 2000] theorem bgeq' (a b : Nat) : binK .geq (bv a) (bv b) K = K (bl (leN b a)) := bgeq a b K
def gf (b : Bool) (x : V) : V := bif b then .tup [] else x
def gt (b : Bool) (x : V) : V := bif b then x else .tup []
@[simp] theorem gf_t (x : V) : gf true x = .tup [] := rfl
@[simp] theorem gf_f (x : V) : gf false x = x := rfl
@[simp] theorem gt_t (x : V) : gt true x = x := rfl
@[simp] theorem gt_f (x : V) : gt false x = .tup [] := rfl
@[simp] theorem gf_gf (b : Bool) (x : V) : gf b (gf b x) = gf b x := by cases b <;> rfl
@[simp] theorem gt_gt (b : Bool) (x : V) : gt b (gt b x) = gt b x := by cases b <;> rfl
variable (j : V → St → R) (b c : Bool) (x y : V)
@[simp] theorem jf_p : jf (bl b) (fun K => K x) st j = j (gf b x) st := by cases b <;> rfl
@[simp] theorem jt_p : jt (bl b) (fun K => K x) st j = j (gt b x) st := by cases b <;> rfl
@[simp] theorem mf_p : mf (bl b) x st j = j (gf b x) st := by cases b <;> rfl
@[simp] theorem mt_p : mt (bl b) x st j = j (gt b x) st := by cases b <;> rfl
variable {j b c x y K}
@[congr] theorem jf_congr {o o' : (V → R) → R} (h : b = false → ∀ k, o k = o' k) : jf (bl b) o st j = jf (bl b) o' st j := by
  cases b
  · show o _ = o' _; exact h rfl _
  · rfl
@[congr] theorem jt_congr {o o' : (V → R) → R} (h : b = true → ∀ k, o k = o' k) : jt (bl b) o st j = jt (bl b) o' st j := by
  cases b
  · rfl
  · show o _ = o' _; exact h rfl _
@[simp] theorem jt_gf (o : (V → R) → R) : jt (gf b (bl c)) o st j = jt (bl (!b && c)) o st j := by cases b <;> rfl
@[simp] theorem jt_gt (o : (V → R) → R) : jt (gt b (bl c)) o st j = jt (bl (b && c)) o st j := by cases b <;> rfl
@[simp] theorem jf_gf (o : (V → R) → R) : jf (gf b (bl c)) o st j = jf (bl (b || c)) o st j := by cases b <;> rfl
@[simp] theorem jf_gt (o : (V → R) → R) : jf (gt b (bl c)) o st j = jf (bl (!b || c)) o st j := by cases b <;> rfl
@[simp] theorem mt_gf : mt (gf b (bl c)) x st j = mt (bl (!b && c)) x st j := by cases b <;> rfl
@[simp] theorem mt_gt : mt (gt b (bl c)) x st j = mt (bl (b && c)) x st j := by cases b <;> rfl
@[simp] theorem mf_gf : mf (gf b (bl c)) x st j = mf (bl (b || c)) x st j := by cases b <;> rfl
@[simp] theorem mf_gt : mf (gt b (bl c)) x st j = mf (bl (!b || c)) x st j := by cases b <;> rfl
@[simp] theorem pck_or : pck (bl b) (bl true) (gf b (bl c)) K = K (bl (b || c)) := by cases b <;> rfl
@[simp] theorem pck_and : pck (bl b) (gt b (bl c)) (bl false) K = K (bl (b && c)) := by cases b <;> rfl
end
@[simp] theorem is_fold (x : Int) : S.int .i64 x = is x := rfl
theorem idxV_sc {st : St} {len j : Nat} {l : List S} {x : S} (c : CallK) (r : Ev) (K : V → St → R) (h : j < len) (hx : l[j]? = some x) : h_op2_idxV len 1 false (.c (.agg l)) (.c (iv j)) c r st K = K (.sc x) st := by
  show iteB (Nat.blt j len) (Option.rec (motive := fun _ => R) (.fail 72) (fun s => K (.sc s) st) (l[j * 1]?)) (.fail 79) = _
  rw [show Nat.blt j len = true from Nat.ble_eq_true_of_le h, iteB_true, Nat.mul_one, hx]
theorem okH_all {al lm sm hv : Nat} {ll : List LL} {ss : List (Nat × Nat)} {pre : Nat} (h1 : sub' al pre = true) (h2 : sub' sm pre = true) : okH ⟨al, lm, sm, hv, [], ll, ss⟩ pre = true := by
  show and' true (and' (sub' sm pre) (sub' al pre)) = true
  rw [h1, h2]; rfl
@[simp] theorem dw2_all {id off : Nat} {al lm sm hv : Nat} {ll : List LL} {ss : List (Nat × Nat)} {n0 bit pre : Nat} (o : (V → St → R) → R) (K : V → Mk → St → R) (h1 : sub' al pre = true) (h2 : sub' sm pre = true) :
    dw2 n0 ⟨al, lm, sm, hv, [], ll, ss⟩ bit pre (.sc (.ptr id off)) o K = o fun v st => K v ⟨al, lm ||| bit, sm, hv, [], ⟨bit, id, re0 v⟩ :: ll, ss⟩ st := by
  show iteB (okL _ n0 pre id) (o fun v st => mkL _ bit id (re0 v) fun mk => K v mk st) _ = _
  rw [okL_all h1 h2, iteB_true]
  congr 1
  funext v st
  exact mkL_mk ..
theorem dw2_low {id off : Nat} {al lm sm hv : Nat} {ll : List LL} {ss : List (Nat × Nat)} {n0 bit pre : Nat} (o : (V → St → R) → R) (K : V → Mk → St → R) (h1 : id < n0) (h2 : sub' sm pre = true) :
    dw2 n0 ⟨al, lm, sm, hv, [], ll, ss⟩ bit pre (.sc (.ptr id off)) o K = o fun v st => K v ⟨al, lm ||| bit, sm, hv, [], ⟨bit, id, re0 v⟩ :: ll, ss⟩ st := by
  show iteB (okL _ n0 pre id) (o fun v st => mkL _ bit id (re0 v) fun mk => K v mk st) _ = _
  rw [okL_low h1 h2, iteB_true]
  congr 1
  funext v st
  exact mkL_mk ..
theorem sat_of_rd' {st : St} {id off z k : Nat} {o : Option Nat} {cs : List S} (h0 : 0 < k * z) (hl : cs.length = k * z) (hc : ∀ m, o = some m → k ≤ m) (h : ∀ i x, cs[i]? = some x → Ev.rd st id (off + i) = some x) : Sat st (.slice id off k o z) k z cs := by
  have h1 := h 0 _ (List.getElem?_eq_getElem (by omega))
  unfold Ev.rd at h1
  cases hb : st.heap.get id with
  | none => rw [hb] at h1; cases h1
  | some b => exact ⟨hl, .inr ⟨id, off, o, b, rfl, hc, hb, fun i x hx => by have h2 := h i x hx; unfold Ev.rd at h2; rw [hb] at h2; exact h2⟩⟩
theorem Own.fr {s t : St} {id n : Nat} (h : Own s id n) (k : Fr s t) : Own t id n := by
  obtain ⟨b, h1, h2⟩ := h; exact ⟨b, k.old id b h1, h2⟩
theorem Own.kp {s t : St} {id n : Nat} {o : Option Nat} (h : Own s id n) (k : Kp o s t) (ho : o ≠ some id) : Own t id n := by
  obtain ⟨b, h1, h2⟩ := h; exact ⟨b, k.old id b ho h1, h2⟩
/-- a call in a region that draws -/
theorem Rg.dc {C : Nat → CallK} {s : St} {al lm sm hv : Nat} {ll : List LL} {ss : List (Nat × Nat)} {bit pre f : Nat} {args : List V} (P1 : V → Prop) {P : List V → St → Prop} {G : CallK → (List V → St → R) → V → Mk → St → R} (hw : WfS s) (h1 : sub' al pre = true) (h2 : sub' sm pre = true)
    (h : Ca C f args (setLow s s.next) (fun v s' => Fr (setLow s s.next) s' ∧ P1 v)) (k : ∀ v s', Fr s s' → P1 v → Rg C (fun c K => G c K v ⟨al ||| bit, lm, sm, hv ||| bit, [], ll, ss⟩ s') P) : Rg C (fun c K => Ev.dw3 ⟨al, lm, sm, hv, [], ll, ss⟩ bit pre s (fun s q => c f args s q) (G c K)) P :=
  Rg.dw3 hw (okH_all h1 h2) h fun v s' k1 k2 => by simp only [mkH_mk]; exact k v s' k1 k2
theorem Rg.imp {C : Nat → CallK} {X : CallK → (List V → St → R) → R} {P P' : List V → St → Prop} (h : Rg C X P) (hp : ∀ l s, P l s → P' l s) : Rg C X P' := by
  obtain ⟨l, s, h1, h2⟩ := h; exact ⟨l, s, hp l s h1, h2⟩
theorem Rg.hide {C : Nat → CallK} {X : CallK → (List V → St → R) → R} {P : List V → St → Prop} (h : ∀ P' : List V → St → Prop, (∀ l s, P l s → P' l s) → Rg C X P') : Rg C X P := h P fun l s h => h
/-! what comes behind a region, out of simp's sight -/
section
variable {C : Nat → CallK} {ρ : Ev} {st : St} {Q : X → Ev → St → Prop} {b : HC} {f : RF} {outs : List Pth}
theorem Ru.rs (h : ∀ P : List V → St → Prop, (∀ l s, Ru C b (updE outs l ρ) s Q → P l s) → Rg C (fun c K => f c ρ st K) P) : Ru C (.seq (.reg outs f) b) ρ st Q := Ru.sreg (h _ fun l s h => h)
theorem Ru.ds (h : ∀ P : List V → St → Prop, (∀ l s, Ru C b (updE outs l ρ) s Q → P l s) → Rg C (fun c K => f c ρ st K) P) : Ru C (.seq (.drw outs f) b) ρ st Q := Ru.sdrw (h _ fun l s h => h)
theorem Ru.r1 (h : ∀ P : List V → St → Prop, (∀ l s, Q .normal (updE outs l ρ) s → P l s) → Rg C (fun c K => f c ρ st K) P) : Ru C (.reg outs f) ρ st Q := Ru.reg (h _ fun l s h => h)
theorem Ru.d1 (h : ∀ P : List V → St → Prop, (∀ l s, Q .normal (updE outs l ρ) s → P l s) → Rg C (fun c K => f c ρ st K) P) : Ru C (.drw outs f) ρ st Q := Ru.drw (h _ fun l s h => h)
end
end Go.Proofs.YtebbnkahklbhiaaGreatDoor.Ev
namespace Go.Proofs.YtebbnkahklbhiaaGreatDoor.Ev
set_option linter.unusedVariables false
/-! what a loop leaves alone -/
noncomputable def qmem (q : Pth) (l : List Pth) : Bool := List.rec (motive := fun _ => Bool) false (fun p _ ih => or' (pthEq q p) ih) l
noncomputable def qsub (l m : List Pth) : Bool := List.rec (motive := fun _ => Bool) true (fun p _ ih => and' (qmem p m) ih) l
noncomputable def qoff (l m : List Pth) : Bool := List.rec (motive := fun _ => Bool) true (fun p _ ih => and' (iteB (qmem p m) false true) ih) l
def Keep (l : List Pth) (ρ' ρ : Ev) : Prop := ∀ q, qmem q l = true → ρ' q = ρ q
theorem Keep.e {l : List Pth} {ρ' ρ : Ev} (h : Keep l ρ' ρ) : ∀ q, qmem q l = true → ρ' q = ρ q := h
theorem Keep.refl (l : List Pth) (ρ : Ev) : Keep l ρ ρ := fun _ _ => rfl
theorem qmem_iff {q : Pth} : ∀ {l : List Pth}, qmem q l = true ↔ q ∈ l
  | [] => ⟨fun h => (by cases h), fun h => (by cases h)⟩
  | p :: l => by
    show or' (pthEq q p) (qmem q l) = true ↔ _
    rw [List.mem_cons, ← qmem_iff (l := l), ← pthEq_iff]
    cases pthEq q p <;> cases qmem q l <;> simp [or']
theorem qsub_iff {m : List Pth} : ∀ {l : List Pth}, qsub l m = true → ∀ q ∈ l, q ∈ m
  | [], _ => fun q h => by cases h
  | p :: l, h => by
    have h : and' (qmem p m) (qsub l m) = true := h
    have h1 : qmem p m = true ∧ qsub l m = true := by
      cases h1 : qmem p m <;> cases h2 : qsub l m <;> rw [h1, h2] at h <;> first | exact ⟨rfl, rfl⟩ | cases h
    intro q hq
    rcases List.mem_cons.1 hq with rfl | hq
    · exact qmem_iff.1 h1.1
    · exact qsub_iff h1.2 q hq
theorem qoff_iff {m : List Pth} : ∀ {l : List Pth}, qoff l m = true → ∀ q ∈ l, q ∉ m
  | [], _ => fun q h => by cases h
  | p :: l, h => by
    have h : and' (iteB (qmem p m) false true) (qoff l m) = true := h
    have h1 : qmem p m = false ∧ qoff l m = true := by
      cases h1 : qmem p m <;> cases h2 : qoff l m <;> rw [h1, h2] at h <;> first | exact ⟨rfl, rfl⟩ | cases h
    intro q hq
    rcases List.mem_cons.1 hq with rfl | hq
    · intro hm; rw [qmem_iff.2 hm] at h1; cases h1.1
    · exact qoff_iff h1.2 q hq
theorem updE_off : ∀ {outs : List Pth} {vs : List V} {ρ : Ev} {q : Pth}, q ∉ outs → updE outs vs ρ q = ρ q
  | [], _, _, _, _ => rfl
  | _ :: _, [], _, _, _ => rfl
  | p :: ps, v :: vs, ρ, q, h => by
    rw [updE_cons, updE_off (fun hq => h (List.mem_cons_of_mem _ hq)), upd_other _ _ (fun he => h (by rw [he]; exact List.mem_cons_self))]
theorem Keep.up {l outs : List Pth} {vs : List V} {ρ1 ρ : Ev} (hs : qoff outs l = true) (h : Keep l ρ1 ρ) : Keep l (updE outs vs ρ1) ρ := fun q hq => by
  rw [updE_off (fun ho => qoff_iff hs q ho (qmem_iff.1 hq))]; exact h q hq
theorem Keep.via {l m : List Pth} {ρ2 ρ1 ρ : Ev} (hs : qsub l m = true) (k : Keep m ρ2 ρ1) (h : Keep l ρ1 ρ) : Keep l ρ2 ρ := fun q hq => by
  rw [k q (qmem_iff.2 (qsub_iff hs q (qmem_iff.1 hq)))]; exact h q hq
/-- a loop that leaves some tmps alone -/
theorem Ru.lp {C : Nat → CallK} {α : Type} (l : List Pth) (m : α → Nat) (I : α → Ev → St → Prop) {b : HC} {ρ : Ev} {st : St} {Q : X → Ev → St → Prop}
    (hI : ∃ a, I a ρ st) (h : ∀ a ρ' s, Keep l ρ' ρ → I a ρ' s → Ru C b ρ' s (Then (fun ρ'' s => Keep l ρ'' ρ ∧ ∃ a', m a' < m a ∧ I a' ρ'' s) Q)) : Ru C (.loop b) ρ st Q := by
  obtain ⟨a, ha⟩ := hI
  refine Ru.loop m (fun a ρ' s => Keep l ρ' ρ ∧ I a ρ' s) ⟨a, Keep.refl _ _, ha⟩ fun a ρ' s hI => ?_
  refine (h a ρ' s hI.1 hI.2).imp fun x ρ'' s hx => ?_
  cases x with
  | normal => obtain ⟨h1, a', h2, h3⟩ := hx; exact ⟨a', h2, h1, h3⟩
  | exit i => exact hx
  | ret => exact hx
theorem Ru.at {C : Nat → CallK} {b : HC} {ρ : Ev} {st : St} {Q : X → Ev → St → Prop} (I : Ev → Prop) (hI : I ρ) (h : ∀ ρ, I ρ → Ru C b ρ st Q) : Ru C b ρ st Q := h _ hI
end Go.Proofs.YtebbnkahklbhiaaGreatDoor.Ev
namespace Go.Proofs.YtebbnkahklbhiaaGreatDoor.Ev
set_option linter.unusedSimpArgs false
set_option linter.unusedVariables false
/-! appending what was just built -/
theorem app_build {a st : St} {y : S} {n z b k : Nat} {cs nc : List S} (hf : Fr a st) (ha : WfS a) (hs : Sat st y n z cs) (hg : Grw a.next st y n z) (hk : 0 < k) (hn : nc.length = k * z) (hb : (4 * (n + k) + 4096) * b ≤ 281474976710656) (hl : n + k ≤ 9223372036854775807) :
    ∃ y' st', (∀ (c : CallK) (r : Ev) (K : V → St → R), xA z b (.sc y) (.sc (.slice st.next 0 k (some k) z)) c r (new st nc) K = K (.sc y') st') ∧ Fr a st' ∧ Sat st' y' (n + k) z (cs ++ nc) ∧ Grw a.next st' y' (n + k) z ∧ Kp (sid y) st st' ∧ sid y' = some (st.next + 1) ∧ st'.next = st.next + 2 := by
  have f1 : Fr st (new st nc) := (Fr.refl hf.wf).new _
  have hs1 : Sat (new st nc) (.slice st.next 0 k (some k) z) k z nc := Sat.new hn fun m h => by cases h; exact Nat.le_refl _
  obtain ⟨y2, s2, hA, g1, g2, g3, g4, g5⟩ := app_ok (b := b) f1.wf (hs.fr f1) (hg.fr f1) (Nat.le_trans hf.next f1.next) hs1.1 hk hb hl
  refine ⟨y2, s2, fun c r K => ?_, g3.fr (hf.trans f1) hg.sid ha, g1, g2, ((Fr.refl hf.wf).new nc |>.kp _).trans g3, g4, g5⟩
  rw [xA_sat hs1, hA]
end Go.Proofs.YtebbnkahklbhiaaGreatDoor.Ev
namespace Go.Proofs.YtebbnkahklbhiaaGreatDoor.Ev
set_option linter.unusedSimpArgs false
set_option linter.unusedVariables false
variable {s t st : St} {id i n : Nat} {l : List S}
/-! a variable in memory: its cells, one behind the other -/
structure Bx (s : St) (id : Nat) (l : List S) : Prop where
  own : Own s id l.length
  rd : ∀ i y, l[i]? = some y → rd s id i = some y
  lt : id < s.next
theorem Bx.fr (h : Bx s id l) (k : Fr s t) : Bx t id l := ⟨h.own.fr k, fun i y hy => k.rd (h.rd i y hy), Nat.lt_of_lt_of_le h.lt k.next⟩
theorem Bx.kp {o : Option Nat} (h : Bx s id l) (k : Kp o s t) (ho : o ≠ some id) : Bx t id l := ⟨h.own.kp k ho, fun i y hy => k.rd ho (h.rd i y hy), Nat.lt_of_lt_of_le h.lt k.next⟩
theorem Bx.new : Bx (new s l) s.next l := ⟨Own.new, fun i y hy => by rw [rd_new, if_pos rfl]; exact hy, by simp⟩
theorem Bx.mk' {z : List S} (h : l.length = z.length) : Bx (wr (Ev.new s z) s.next 0 l) s.next l := by
  refine ⟨?_, fun i y hy => by rw [rd_mk h, if_pos rfl]; exact hy, by simp⟩
  have := Own.wr (id := s.next) (off := 0) (l := l) (Own.new (st := s) (l := z))
  rw [h]; exact this
theorem Bx.N (h : Bx s id l) (hn : l.length = n) : rdN s id 0 n = some l := rdN_get hn fun i x hx => by rw [Nat.zero_add]; exact h.rd i x hx
theorem Bx.sto (h : Bx s id l) (hi : i < l.length) (x : S) (K : St → R) : sto s 1 (.sc (.ptr id i)) (.sc x) K = K (wr s id i [x]) := sto_sc K h.own (by omega)
theorem Bx.set (h : Bx s id l) (hi : i < l.length) (x : S) : Bx (wr s id i [x]) id (l.set i x) := by
  refine ⟨by rw [List.length_set]; exact h.own.wr, fun j y hy => ?_, by rw [wr_next]; exact h.lt⟩
  rw [rd_wr h.own (by simp; omega)]
  by_cases hij : j = i
  · subst hij
    rw [if_pos ⟨rfl, Nat.le_refl _, by simp⟩]
    rw [List.getElem?_set_self hi] at hy
    cases hy; simp
  · rw [if_neg (by simp; omega)]
    rw [List.getElem?_set_ne (by omega)] at hy
    exact h.rd j y hy
theorem Bx.kpw (h : Bx s id l) (hw : WfS s) (x : List S) : Kp (some id) s (wr s id i x) := kp_wr hw h.lt
theorem Bx.stoN (h : Bx s id l) {l' : List S} (hn : l'.length = n) (hl : l.length = n) (K : St → R) : Ev.sto s n (.sc (.ptr id 0)) (.agg l') K = K (wr s id 0 l') := by
  subst hn
  exact sto_agg K h.own (by omega)
theorem Bx.setN (h : Bx s id l) {l' : List S} (hl : l'.length = l.length) : Bx (wr s id 0 l') id l' := by
  refine ⟨by rw [hl]; exact h.own.wr, fun j y hy => ?_, by rw [wr_next]; exact h.lt⟩
  have hj := (List.getElem?_eq_some_iff.1 hy).1
  rw [rd_wr h.own (by omega), if_pos ⟨rfl, Nat.zero_le _, by omega⟩]
  exact hy
theorem resP.cellsTmp {p q : Pth} {n : Nat} {ρ : Ev} {st : St} {P : V → St → Prop} {id off : Nat} {l : List S} {b : S} (hp : ρ p = .sc (.ptr id off)) (hr : rdN st id off (n + 1) = some l) (hb : ρ q = .sc b) (h : P (.tup [(true, l), (false, [b])]) st) : resP [.cellN (n + 1) p, .tmp q] ρ st P :=
  ⟨_, h, fun K tm ht => by
    show asPtr 91 (rho tm p) (fun id off => loadNK st (n + 1) id off fun v => fin1 K st [v, rho tm q]) = _
    rw [ht, hp, hb]
    show loadNK st (n + 1) id off _ = _
    rw [loadNK_eq, hr]; rfl⟩
end Go.Proofs.YtebbnkahklbhiaaGreatDoor.Ev
namespace Go.Proofs.YtebbnkahklbhiaaGreatDoor.Ev
set_option linter.unusedSimpArgs false
set_option linter.unusedVariables false
variable {st s t : St} {id off i n : Nat}
theorem Out.hit {i : Nat} {Q : X → Ev → St → Prop} {ρ : Ev} {s : St} (h : Q .normal ρ s) : Out i Q (.exit i) ρ s := by
  show (if i = i then Q .normal else Q (.exit i)) ρ s
  rw [if_pos rfl]; exact h
theorem ne_some {a b : Nat} (h : a ≠ b) : some a ≠ some b := fun he => by cases he; exact h rfl
/-! stores in regions that draw -/
theorem clear_nil (pre id : Nat) : clear pre id [] = true := rfl
theorem clear_ne {pre id b j : Nat} {l : List (Nat × Nat)} (h : j ≠ id) : clear pre id ((b, j) :: l) = clear pre id l := by
  show iteB (Nat.beq j id) _ _ = _
  rw [show Nat.beq j id = false by rw [← Bool.not_eq_true]; intro hh; exact h (Nat.eq_of_beq_eq_true hh), iteB_false]; rfl
theorem clear_sub {pre id b j : Nat} {l : List (Nat × Nat)} (h : sub' b pre = true) : clear pre id ((b, j) :: l) = clear pre id l := by
  show iteB (Nat.beq j id) (and' (sub' b pre) (clear pre id l)) (clear pre id l) = _
  rw [h]
  cases Nat.beq j id <;> rfl
theorem clear_all {pre id m : Nat} {l : List (Nat × Nat)} (h : ∀ p ∈ l, p.2 ≠ id ∨ sub' p.1 pre = true) : clear pre id l = true := by
  induction l with
  | nil => rfl
  | cons p l ih =>
    obtain ⟨b, j⟩ := p
    rcases h (b, j) List.mem_cons_self with h1 | h1
    · rw [clear_ne h1]; exact ih fun p hp => h p (List.mem_cons_of_mem _ hp)
    · rw [clear_sub h1]; exact ih fun p hp => h p (List.mem_cons_of_mem _ hp)
theorem clearL_all {pre id : Nat} : ∀ {l : List LL}, (∀ p ∈ l, p.id ≠ id ∨ sub' p.bit pre = true) → clearL pre id l = true
  | [], _ => rfl
  | p :: l, h => by
    have ih := clearL_all fun q hq => h q (List.mem_cons_of_mem _ hq)
    show iteB (Nat.beq p.id id) (and' (sub' p.bit pre) (clearL pre id l)) (clearL pre id l) = true
    rw [iteB_eq, ih]
    split
    · rename_i he
      rcases h p List.mem_cons_self with h1 | h1
      · exact absurd (Nat.eq_of_beq_eq_true he) h1
      · rw [h1]; rfl
    · rfl
theorem okS_of {al lm sm hv : Nat} {ll : List LL} {ss : List (Nat × Nat)} {n0 pre id : Nat} (h1 : sub' hv pre = true) (h2 : sub' al pre = true ∨ id < n0) (h3 : sub' sm pre = true ∨ clear pre id ss = true) (h4 : sub' lm pre = true ∨ clearL pre id ll = true) : okS ⟨al, lm, sm, hv, [], ll, ss⟩ n0 pre id = true := by
  show and' (sub' hv pre) (and' (or' (sub' al pre) (Nat.blt id n0)) (and' (or' (sub' sm pre) (clear pre id ss)) (or' (sub' lm pre) (clearL pre id ll)))) = true
  have e2 : or' (sub' al pre) (Nat.blt id n0) = true := by
    rcases h2 with h | h
    · rw [h]; rfl
    · rw [show Nat.blt id n0 = true from Nat.ble_eq_true_of_le h]; cases sub' al pre <;> rfl
  have e3 : or' (sub' sm pre) (clear pre id ss) = true := by
    rcases h3 with h | h
    · rw [h]; rfl
    · rw [h]; cases sub' sm pre <;> rfl
  have e4 : or' (sub' lm pre) (clearL pre id ll) = true := by
    rcases h4 with h | h
    · rw [h]; rfl
    · rw [h]; cases sub' lm pre <;> rfl
  rw [h1, e2, e3, e4]; rfl
theorem okS_t {al lm sm hv : Nat} {ll : List LL} {ss : List (Nat × Nat)} {n0 pre id : Nat} (h1 : and' (sub' hv pre) (and' (sub' al pre) (sub' sm pre)) = true) (h4 : ∀ p ∈ ll, p.id ≠ id ∨ sub' p.bit pre = true) : okS ⟨al, lm, sm, hv, [], ll, ss⟩ n0 pre id = true := by
  have h : sub' hv pre = true ∧ sub' al pre = true ∧ sub' sm pre = true := by
    revert h1
    cases sub' hv pre <;> cases sub' al pre <;> cases sub' sm pre <;> intro h1 <;> first | exact ⟨rfl, rfl, rfl⟩ | cases h1
  exact okS_of h.1 (.inl h.2.1) (.inl h.2.2) (.inr (clearL_all h4))
theorem dS_ok {al lm sm hv : Nat} {ll : List LL} {ss : List (Nat × Nat)} {n0 bit pre : Nat} (ho : Own st id n) (hm : off + 1 ≤ n) (x : S) (K : V → Mk → St → R) (h : okS ⟨al, lm, sm, hv, [], ll, ss⟩ n0 pre id = true) :
    dS n0 ⟨al, lm, sm, hv, [], ll, ss⟩ bit pre st 1 (.sc (.ptr id off)) (.sc x) K = K undefV ⟨al, lm, sm ||| bit, hv, [], ll, (bit, id) :: ss⟩ (wr st id off [x]) := by
  show iteB (okS _ n0 pre id) (sto st 1 (.sc (.ptr id off)) (.sc x) (fun st => mkS _ bit id fun mk => K undefV mk st)) (.fail 88) = _
  rw [h, iteB_true, sto_sc _ ho hm]
  show mkS _ bit id _ = _
  rw [mkS_eq]; rfl
/-- what was just built, appended -/
theorem app_bld {y : S} {n z b k a : Nat} {cs nc : List S} (hw : WfS st) (hs : Sat st y n z cs) (hg : Grw a st y n z) (ha : a ≤ st.next) (hk : 0 < k) (hn : nc.length = k * z) (hb : (4 * (n + k) + 4096) * b ≤ 281474976710656) (hl : n + k ≤ 9223372036854775807) :
    ∃ y' st', (∀ (c : CallK) (r : Ev) (K : V → St → R), xA z b (.sc y) (.sc (.slice st.next 0 k (some k) z)) c r (new st nc) K = K (.sc y') st') ∧ Sat st' y' (n + k) z (cs ++ nc) ∧ Grw a st' y' (n + k) z ∧ Kp (sid y) st st' ∧ sid y' = some (st.next + 1) ∧ st'.next = st.next + 2 := by
  have f1 : Fr st (new st nc) := (Fr.refl hw).new _
  have hs1 : Sat (new st nc) (.slice st.next 0 k (some k) z) k z nc := Sat.new hn fun m h => by cases h; exact Nat.le_refl _
  obtain ⟨y2, s2, hA, g1, g2, g3, g4, g5⟩ := app_ok (b := b) f1.wf (hs.fr f1) (hg.fr f1) (Nat.le_trans ha f1.next) hs1.1 hk hb hl
  refine ⟨y2, s2, fun c r K => ?_, g1, g2, ((Fr.refl hw).new nc |>.kp _).trans g3, g4, g5⟩
  rw [xA_sat hs1, hA]
/-! append where there is room -/
theorem app_cap {n z b k c : Nat} {cs nc : List S} (hs : Sat st (.slice id 0 n (some c) z) n z cs) (ho : Own st id (c * z)) (hk : 0 < k) (hn : nc.length = k * z) (hc : n + k ≤ c) (hb : (4 * (n + k) + 4096) * b ≤ 281474976710656) (hl : n + k ≤ 9223372036854775807) :
    (∀ K, appendK st z b k nc K (.slice id 0 n (some c) z) = K (.sc (.slice id 0 (n + k) (some c) z)) (wr st id (n * z) nc)) ∧ Sat (wr st id (n * z) nc) (.slice id 0 (n + k) (some c) z) (n + k) z (cs ++ nc) := by
  have hle : n * z + k * z ≤ c * z := by rw [← Nat.add_mul]; exact Nat.mul_le_mul_right _ hc
  constructor
  · intro K
    show iteB (Nat.beq k 0) _ (iteB (Nat.ble (Nat.mul (Nat.add (Nat.mul 4 (Nat.add n k)) 4096) b) 281474976710656) (iteB (Nat.ble (Nat.add n k) 9223372036854775807) (iteB (Nat.beq z z) (iteB (Nat.ble (Nat.add n k) c) (storeK st id (Nat.add 0 (Nat.mul n z)) nc fun st => seqN (Nat.add n k) fun n => K (.sc (.slice id 0 n (some c) z)) st) _) _) _) _) = _
    rw [show Nat.beq k 0 = false by rw [← Bool.not_eq_true]; intro hh; have := Nat.eq_of_beq_eq_true hh; omega, iteB_false, show Nat.ble (Nat.mul (Nat.add (Nat.mul 4 (Nat.add n k)) 4096) b) 281474976710656 = true from Nat.ble_eq_true_of_le hb, iteB_true, show Nat.ble (Nat.add n k) 9223372036854775807 = true from Nat.ble_eq_true_of_le hl, iteB_true, Nat.beq_refl, iteB_true, show Nat.ble (Nat.add n k) c = true from Nat.ble_eq_true_of_le hc, iteB_true]
    rw [show Nat.add 0 (Nat.mul n z) = n * z from Nat.zero_add _, sto_ok _ ho (by omega), seqN_eq]; rfl
  · refine sat_of_rd ho.wr (by rw [List.length_append, hs.1, hn, Nat.add_mul]) (fun m hm => by cases hm; exact hc) fun i x hx => ?_
    rw [Nat.zero_add, rd_wr ho (by omega)]
    by_cases hi : i < cs.length
    · rw [List.getElem?_append_left hi] at hx
      rw [if_neg (by have := hs.1; omega)]
      have hn0 : 0 < n := by
        rcases Nat.eq_zero_or_pos n with h | h
        · subst h; have := hs.1; omega
        · exact h
      obtain ⟨_, _, _, he, hh⟩ := hs.rd hn0
      cases he
      have := hh i x hx
      rwa [Nat.zero_add] at this
    · rw [List.getElem?_append_right (by omega)] at hx
      have hj := (List.getElem?_eq_some_iff.1 hx).1
      have hcl := hs.1
      rw [if_pos ⟨rfl, by omega, by omega⟩, ← hcl]; exact hx
/-! functions that captured -/
theorem uncap_caps (f : Nat) (hf : Nat.blt f yBase = true) : ∀ l : List S, uncap (capsOf f l) = some (f, l.map V.sc)
  | [] => by show uncap (.fn f) = _; unfold uncap; rw [hf]; rfl
  | x :: r => by
    show uncap (.cap x (capsOf f r)) = _
    unfold uncap
    rw [uncap_caps f hf r]
    show (match Nat.blt f yBase with | true => some (f, V.sc x :: r.map V.sc) | false => none) = _
    rw [hf]; rfl
theorem callV_cap (f : Nat) (hf : Nat.blt f yBase = true) (l : List S) (v : V) (c : CallK) (r : Ev) (K : V → St → R) : h_op4_callV (.c (.sc (capsOf f l))) [.c v] c r st K = c f (v :: l.map V.sc) st K := by
  show (match uncap (capsOf f l) with | some (f, l) => evL r [.c v] fun a => seqL (a ++ l) fun a => c f a st K | none => .fail 51) = _
  rw [uncap_caps f hf l]
  show seqL ([v] ++ l.map V.sc) (fun a => c f a st K) = _
  rw [seqL_eq]; rfl
/-! equality of flat values -/
def IntK (x y : S) : Prop := ∃ k m n, x = .int k m ∧ y = .int k n
theorem eqL_ints {a b : List S} (h : All2 IntK a b) : ∃ e, eqL (List.replicate a.length 1) a b = some e ∧ (e = true ↔ a = b) := by
  induction h with
  | nil => exact ⟨true, rfl, by simp⟩
  | @cons x y a b hx _ ih =>
    obtain ⟨k, m, n, rfl, rfl⟩ := hx
    obtain ⟨e, h1, h2⟩ := ih
    have e1 : eqS1 1 (.int k m) (.int k n) = some (intEq m n) := by
      show (if Nat.beq (kindN k) (kindN k) = true then some (intEq m n) else none) = _
      rw [Nat.beq_refl]; rfl
    show ∃ e, (match eqS1 1 (.int k m) (.int k n) with | some true => eqL (List.replicate a.length 1) a b | some false => some false | none => none) = some e ∧ _
    rw [e1]
    cases hmn : intEq m n with
    | true =>
      have : m = n := by rw [intEq_eq] at hmn; simpa using hmn
      subst this
      exact ⟨e, h1, by simp [h2]⟩
    | false =>
      have : m ≠ n := by rw [intEq_eq] at hmn; simpa using hmn
      exact ⟨false, rfl, by simp [this]⟩
theorem eqv_ints {ts : List Nat} {a b : List S} (h : All2 IntK a b) (ht : ts = List.replicate a.length 1) : ∃ e, (∀ (c : CallK) (r : Ev) (K : V → St → R), h_op4_eqv (.flat ts) true (.c (.agg a)) (.c (.agg b)) c r st K = K (bl (!e)) st) ∧ (e = true ↔ a = b) := by
  obtain ⟨e, h1, h2⟩ := eqL_ints h
  refine ⟨e, fun c r K => ?_, h2⟩
  subst ht
  show eqK true (fun v => K v st) (if Nat.beq (lenL a) (lenL (List.replicate a.length 1)) = true then if Nat.beq (lenL b) (lenL (List.replicate a.length 1)) = true then eqL (List.replicate a.length 1) a b else none else none) = _
  rw [lenL_eq, lenL_eq, lenL_eq, List.length_replicate, ← h.length, Nat.beq_refl, if_pos rfl, if_pos rfl, h1]
  cases e <;> rfl
end Go.Proofs.YtebbnkahklbhiaaGreatDoor.Ev
namespace Go.Proofs.YtebbnkahklbhiaaGreatDoor.Ev
set_option linter.unusedSimpArgs false
set_option linter.unusedVariables false
variable {st s t : St} {n i id off : Nat}
/-! numbers; stores -/
@[simp] theorem cnv_u8 (n : Nat) (K : V → R) : cnv .u8 (uv n) K = K (bv (n % 256)) := by
  show intK .u8 (n : Int) K = _
  rw [intK_eq]
  have h : IntKind.u8.wrap (n : Int) = ((n % 256 : Nat) : Int) := by
    unfold IntKind.wrap
    simp [IntKind.bits, IntKind.signed]
  rw [h]; rfl
theorem umin2 (a b : Nat) (c : CallK) (r : Ev) (K : V → St → R) : h_op4_minmax false [(.c (uv a)), (.c (uv b))] c r st K = K (uv (min a b)) st := by
  show K (.sc (.int .u64 (iteB (intLt (b : Int) (a : Int)) (b : Int) (a : Int)))) st = _
  rw [intLt_b]
  by_cases h : b < a
  · rw [decide_eq_true (by omega), iteB_true, Nat.min_eq_right (by omega)]; rfl
  · rw [decide_eq_false (by omega), iteB_false, Nat.min_eq_left (by omega)]; rfl
@[simp] theorem ixA_u (len z : Nat) {x : Nat} (K : V → R) (h' : x < len) : ixA len z (.sc (.ptr id off)) (uv x) K = K (.sc (.ptr id (off + x * z))) := by
  have h1 : Nat.blt x len = true := Nat.ble_eq_true_of_le h'
  show iteB (Nat.blt x len) (seqN (Nat.add off (Nat.mul x z)) fun o => K (.sc (.ptr id o))) (.fail 74) = _
  rw [h1, iteB_true, seqN_eq]; rfl
theorem dS_agg {al lm sm hv : Nat} {ll : List LL} {ss : List (Nat × Nat)} {n0 bit pre m : Nat} {l : List S} (ho : Own st id n) (hm : off + l.length ≤ n) (hl : l.length = m) (K : V → Mk → St → R) (h : okS ⟨al, lm, sm, hv, [], ll, ss⟩ n0 pre id = true) :
    dS n0 ⟨al, lm, sm, hv, [], ll, ss⟩ bit pre st m (.sc (.ptr id off)) (.agg l) K = K undefV ⟨al, lm, sm ||| bit, hv, [], ll, (bit, id) :: ss⟩ (wr st id off l) := by
  subst hl
  show iteB (okS _ n0 pre id) (sto st l.length (.sc (.ptr id off)) (.agg l) (fun st => mkS _ bit id fun mk => K undefV mk st)) (.fail 88) = _
  rw [h, iteB_true, sto_agg _ ho hm]
  show mkS _ bit id _ = _
  rw [mkS_eq]; rfl
end Go.Proofs.YtebbnkahklbhiaaGreatDoor.Ev
namespace Go.Proofs.YtebbnkahklbhiaaGreatDoor.Ev
set_option linter.unusedSimpArgs false
set_option linter.unusedVariables false
variable {st s t : St} {n i id off : Nat}
/-! the sponge's round and permutation, for any numbers of its functions -/
theorem resP.tmpCells' {p q : Pth} {n : Nat} {ρ : Ev} {st : St} {P : V → St → Prop} {id off : Nat} {l : List S} {b : S} (hb : ρ p = .sc b) (hp : ρ q = .sc (.ptr id off)) (hr : rdN st id off (n + 1) = some l) (h : P (.tup [(false, [b]), (true, l)]) st) : resP [.tmp p, .cellN (n + 1) q] ρ st P :=
  ⟨_, h, fun K tm ht => by
    show asPtr 91 (rho tm q) (fun id off => loadNK st (n + 1) id off fun v => fin1 K st [rho tm p, v]) = _
    rw [ht, hp, hb]
    show loadNK st (n + 1) id off _ = _
    rw [loadNK_eq, hr]; rfl⟩
theorem resP.cells {q : Pth} {n : Nat} {ρ : Ev} {st : St} {P : V → St → Prop} {id off : Nat} {l : List S} (hp : ρ q = .sc (.ptr id off)) (hr : rdN st id off (n + 1) = some l) (h : P (.agg l) st) : resP [.cellN (n + 1) q] ρ st P :=
  ⟨_, h, fun K tm ht => by
    show asPtr 91 (rho tm q) (fun id off => loadNK st (n + 1) id off fun v => fin1 K st [v]) = _
    rw [ht, hp]
    show loadNK st (n + 1) id off _ = _
    rw [loadNK_eq, hr]; rfl⟩
abbrev fC (f : Nat → Nat) : List S := [us (f 0), us (f 1), us (f 2), us (f 3)]
abbrev mC (P g : Nat) (five : Bool) : List S := [us P, us g, .bool five]
theorem fC_set (f g : Nat → Nat) (j : Nat) (h : j < 4) : (fC fun i => if i < j then g i else f i).set j (us (g j)) = fC fun i => if i < j + 1 then g i else f i := by
  rcases (show j = 0 ∨ j = 1 ∨ j = 2 ∨ j = 3 by omega) with rfl | rfl | rfl | rfl <;> rfl
theorem fC_get (f : Nat → Nat) (j : Nat) (h : j < 4) : (fC f)[j]? = some (us (f j)) := by
  rcases (show j = 0 ∨ j = 1 ∨ j = 2 ∨ j = 3 by omega) with rfl | rfl | rfl | rfl <;> rfl
theorem Rg.dn {C : Nat → CallK} {s : St} {al lm sm hv : Nat} {ll : List LL} {ss : List (Nat × Nat)} {bit pre f : Nat} {args : List V} (P1 : V → St → Prop) {P : List V → St → Prop} {G : CallK → (List V → St → R) → V → Mk → St → R} (hr : ∀ v h nx a b, P1 v ⟨h, nx, a⟩ → P1 v ⟨h, nx, b⟩) (hw : WfS s) (h1 : sub' al pre = true) (h2 : sub' sm pre = true)
    (h : Ca C f args (setLow s s.next) (fun v s' => Fr (setLow s s.next) s' ∧ P1 v s')) (k : ∀ v s', Fr s s' → P1 v s' → Rg C (fun c K => G c K v ⟨al ||| bit, lm, sm, hv ||| bit, [], ll, ss⟩ s') P) : Rg C (fun c K => Ev.dw3 ⟨al, lm, sm, hv, [], ll, ss⟩ bit pre s (fun s q => c f args s q) (G c K)) P := by
  obtain ⟨v, s', ⟨k1, k2⟩, n, h3⟩ := h
  have hF := Fr.setLow (h := hw) k1
  obtain ⟨l, s2, h4, n', h5⟩ := k v _ hF (by cases s'; exact hr _ _ _ _ _ k2)
  refine ⟨l, s2, h4, max n n', fun x hx K => ?_⟩
  show iteB (okH _ pre) (C x f args (setLow s s.next) fun v st' => heavyK s.next s.low s pre bit _ (fun mk st => G (C x) K v mk st) st') (.fail 89) = _
  rw [okH_all h1 h2, iteB_true, h3 x (by omega)]
  have hl : s.next ≤ s'.low := by have := k1.low; cases s; simpa [Ev.setLow] using this
  rw [← h5 x (by omega) K]
  cases s' with
  | mk hp nx lo =>
    show iteB (Nat.blt lo s.next) _ (mkH _ bit fun mk => G (C x) K v mk ⟨hp, nx, s.low⟩) = _
    have : Nat.blt lo s.next = false := by rw [← Bool.not_eq_true]; intro hh; have := blt_of hh; simp at hl; omega
    rw [this, iteB_false, mkH_mk]
noncomputable def hRound (pw : Nat) : HF := ⟨
(.seq (.reg [q3, q5, q6, q7] fun c r s K => bxx s (r q0) fun v0 s => bxx s (r q2) fun v1 s => alc s [zu, zu, zu, zu] fun v2 s => K [v0, v1, U0, v2] s)
 (.seq (.seq (.reg [q10] fun c r s K => K [I0] s)
 (.block n0 (.loop (.seq (.reg [q11] fun c r s K => binK .lss (r q10) I4 fun v0 => K [v0] s)
 (.seq (.cond (.t q11) .skip
 (.exit n0))
 (.seq (.block n1 (.seq (.reg [q8] fun c r s K => K [(r q10)] s)
 (.seq (.reg [q1] fun c r s K => fad n1 (r q3) fun v0 => ld s v0 fun v1 => binK .mul (r q1) v1 fun v2 => fad n0 (r q3) fun v3 => ld s v3 fun v4 => binK .rem v2 v4 fun v5 => K [v5] s)
 (.drw [] fun c r s K => (fun z m => dN z m n2 n0 s n3 (r q3) fun v0 m s => ixA n4 n1 (r q5) (r q8) fun v1 => dL z m n16 n12 s v1 fun v2 m s => binK .add v2 (r q1) fun v3 => binK .add v3 U7 fun v4 => fad n0 (r q3) fun v5 => dL z m (nat_lit 512) (nat_lit 256) s v5 fun v6 m s => binK .rem v4 v6 fun v7 => dw3 m (nat_lit 2048) (nat_lit 2046) s (fun s q => c pw [v0, v7] s q) fun v8 m s => ixA n4 n1 (r q5) (r q8) fun v9 => dS z m (nat_lit 8192) (nat_lit 8191) s n1 v9 v8 fun _ m s => K [] s) s.next mk0))))
 (.reg [q10] fun c r s K => binK .add (r q10) I1 fun v0 => K [v0] s)))))))
 (.seq (.reg [q9] fun c r s K => ixA n4 n1 (r q5) I0 fun v0 => ld s v0 fun v1 => ixA n4 n1 (r q5) I1 fun v2 => ld s v2 fun v3 => binK .add v1 v3 fun v4 => ixA n4 n1 (r q5) I2 fun v5 => ld s v5 fun v6 => binK .add v4 v6 fun v7 => ixA n4 n1 (r q5) I3 fun v8 => ld s v8 fun v9 => binK .add v7 v9 fun v10 => K [v10] s)
 (.seq (.drw [q6] fun c r s K => (fun z m => ixA n4 n1 (r q5) I0 fun v0 => dL z m n8 n4 s v0 fun v1 m s => binK .add (r q9) v1 fun v2 => ixA n4 n1 (r q5) I1 fun v3 => dL z m n64 n32 s v3 fun v4 m s => binK .mul U2 v4 fun v5 => binK .add v2 v5 fun v6 => fad n0 (r q3) fun v7 => dL z m (nat_lit 1024) (nat_lit 512) s v7 fun v8 m s => binK .rem v6 v8 fun v9 => ixA n4 n1 (r q5) I1 fun v10 => dL z m (nat_lit 16384) (nat_lit 8192) s v10 fun v11 m s => binK .add (r q9) v11 fun v12 => ixA n4 n1 (r q5) I2 fun v13 => dL z m (nat_lit 131072) (nat_lit 65536) s v13 fun v14 m s => binK .mul U2 v14 fun v15 => binK .add v12 v15 fun v16 => fad n0 (r q3) fun v17 => dL z m (nat_lit 2097152) (nat_lit 1048576) s v17 fun v18 m s => binK .rem v16 v18 fun v19 => ixA n4 n1 (r q5) I2 fun v20 => dL z m (nat_lit 33554432) (nat_lit 16777216) s v20 fun v21 m s => binK .add (r q9) v21 fun v22 => ixA n4 n1 (r q5) I3 fun v23 => dL z m (nat_lit 268435456) (nat_lit 134217728) s v23 fun v24 m s => binK .mul U2 v24 fun v25 => binK .add v22 v25 fun v26 => fad n0 (r q3) fun v27 => dL z m (nat_lit 4294967296) (nat_lit 2147483648) s v27 fun v28 m s => binK .rem v26 v28 fun v29 => ixA n4 n1 (r q5) I3 fun v30 => dL z m (nat_lit 68719476736) (nat_lit 34359738368) s v30 fun v31 m s => binK .add (r q9) v31 fun v32 => ixA n4 n1 (r q5) I0 fun v33 => dL z m (nat_lit 549755813888) (nat_lit 274877906944) s v33 fun v34 m s => binK .mul U2 v34 fun v35 => binK .add v32 v35 fun v36 => fad n0 (r q3) fun v37 => dL z m (nat_lit 8796093022208) (nat_lit 4398046511104) s v37 fun v38 m s => binK .rem v36 v38 fun v39 => h_op3_build [zu, zu, zu, zu] [(n0, n1, (.c v9)), (n1, n1, (.c v19)), (n2, n1, (.c v29)), (n3, n1, (.c v39))] c r s fun v40 s => dS z m (nat_lit 140737488355328) (nat_lit 140737488355327) s n4 (r q7) v40 fun _ m s => K [(r q1)] s) s.next mk0)
 .ret)))), [(.tmp q6), (.cellN n4 q7)], [q0, q1, q2], [q12, q13, q14, q15, q16, q17, q18, q19, q20, q21, q22, q23, q24, q25, q26, q27, q28, q29, q30, q31, q32, q33, q34, q35, q36, q37, q38, q39, q40, q41, q42, q43, q44, q45, q46, q47, q48, q49, q50, q51, q52, q53, q54, q55, q56, q57, q58, q59, q60, q61, q62, q63, q64, q65, q66, q67, q68, q69, q70, q71, q72, q73, q74, q75, q76, q77, q78, q79, q80, q81, q82, q83, q84, q85, q86, q87, q88, q89, q90]⟩
noncomputable def hPerm (rd : Nat) : HF := ⟨
(.seq (.reg [q2, q3, q4] fun c r s K => bxx s (r q0) fun v0 s => bxx s (r q1) fun v1 s => alc s [zu, zu, zu, zu] fun v2 s => K [v0, v1, v2] s)
 (.seq (.reg [q5] fun c r s K => K [U1] s)
 (.seq (.seq (.reg [q6] fun c r s K => K [I0] s)
 (.block n0 (.loop (.seq (.reg [q7] fun c r s K => binK .lss (r q6) I8 fun v0 => K [v0] s)
 (.seq (.cond (.t q7) .skip
 (.exit n0))
 (.seq (.block n1 (.reg [q5] fun c r s K => lN s n3 (r q2) fun v0 => lN s n4 (r q3) fun v1 => c rd [v0, (r q5), v1] s fun v2 s => xE n0 v2 c r s fun v3 s => xE n1 v2 c r s fun v4 s => sto s n4 (r q3) v4 fun s => K [v3] s))
 (.reg [q6] fun c r s K => binK .add (r q6) I1 fun v0 => K [v0] s)))))))
 (.seq (.reg [] fun c r s K => lN s n4 (r q3) fun v0 => sto s n4 (r q4) v0 fun s => K [] s)
 .ret)))), [(.cellN n4 q4)], [q0, q1], [q9, q10, q11, q12, q8, q13, q14, q15, q16]⟩
theorem mpow_lt' {P : Nat} (h : 0 < P) (b : Bool) (x : Nat) : mpow P b x < P := Nat.mod_lt _ h
/-! a round: the powers of the generator, the powers, the sums -/
def gS (P g k : Nat) : Nat → Nat
  | 0 => k
  | j + 1 => gS P g k j * g % P
def tR (P g : Nat) (five : Bool) (k : Nat) (f : Nat → Nat) (j : Nat) : Nat := mpow P five ((f j + gS P g k (j + 1) + 7) % P)
def uR (P g : Nat) (five : Bool) (k : Nat) (f : Nat → Nat) : Nat := tR P g five k f 0 + tR P g five k f 1 + tR P g five k f 2 + tR P g five k f 3
def rR (P g : Nat) (five : Bool) (k : Nat) (f : Nat → Nat) (j : Nat) : Nat := (uR P g five k f + tR P g five k f j + 2 * tR P g five k f ((j + 1) % 4)) % P
theorem gS_lt {P g k : Nat} (h : 0 < P) (hk : k < P) : ∀ j, gS P g k j < P
  | 0 => hk
  | j + 1 => Nat.mod_lt _ h
section
variable {F : Nat → Option HF} {pw rn pn : Nat} {P g : Nat} {five : Bool}
theorem sRound (hpf : F pw = some hPower) (bpf : Nat.blt pw yBase = true) (hrf : F rn = some (hRound pw)) (brf : Nat.blt rn yBase = true) (hw : WfS st) (hp : 0 < P) (hpl : P < 2147483648) (hgl : g < 4294967296) {k : Nat} (hk : k < P) (f : Nat → Nat) (hf : ∀ j, j < 4 → f j < P) :
    Ca (cF F) rn [.agg (mC P g five), uv k, .agg (fC f)] st (fun v s => (Fr st s ∧ s.next ≤ st.next + 11) ∧ v = .tup [(false, [us (gS P g k 4)]), (true, fC (rR P g five k f))]) := by
  refine Ca.of (hf := hRound pw) hrf brf [q0, q1, q2] [.tmp q6, .cellN n4 q7] rfl rfl rfl fun Q hQ => ?_
  have f1 := (Fr.refl hw).new (mC P g five)
  have f2 := f1.new (fC f)
  have f3 := f2.new [us 0, us 0, us 0, us 0]
  have b3 : Bx (new (new (new st (mC P g five)) (fC f)) [us 0, us 0, us 0, us 0]) st.next (mC P g five) := ((Bx.new (s := st)).fr ((Fr.refl f1.wf).new _)).fr ((Fr.refl f2.wf).new _)
  have b5 : Bx (new (new (new st (mC P g five)) (fC f)) [us 0, us 0, us 0, us 0]) (st.next + 1) (fC f) := (Bx.new (s := new st (mC P g five))).fr ((Fr.refl f2.wf).new _)
  have b7 : Bx (new (new (new st (mC P g five)) (fC f)) [us 0, us 0, us 0, us 0]) (st.next + 1 + 1) [us 0, us 0, us 0, us 0] := Bx.new (s := new (new st (mC P g five)) (fC f))
  have hnx : (new (new (new st (mC P g five)) (fC f)) [us 0, us 0, us 0, us 0]).next ≤ st.next + 3 := by simp
  refine Ru.rs fun P hP => ?_
  simp -implicitDefEqProofs (disch := first | decide | omega)
  refine Rg.ret (hP _ _ ?_)
  clear hP P
  generalize new (new (new st (mC P g five)) (fC f)) [us 0, us 0, us 0, us 0] = s3 at *
  refine Ru.seq (Ru.rs fun P hP => Rg.ret (hP _ _ ?_))
  clear hP P
  refine Ru.at (fun ρ => ρ q3 = .sc (.ptr st.next 0) ∧ ρ q5 = .sc (.ptr (st.next + 1) 0) ∧ ρ q7 = .sc (.ptr (st.next + 1 + 1) 0) ∧ ρ q10 = iv 0 ∧ ρ q1 = uv k) ⟨rfl, rfl, rfl, rfl, rfl⟩ fun ρ0 hE => ?_
  obtain ⟨e3, e5, e7, e10, e1⟩ := hE
  refine Ru.block (Ru.lp [q3, q5, q7] (fun j : Nat => 4 - j) (fun j ρ s => j ≤ 4 ∧ ρ q10 = iv j ∧ ρ q1 = uv (gS P g k j) ∧ (Fr st s ∧ s.next ≤ st.next + 3 + 2 * j) ∧ Bx s st.next (mC P g five) ∧ Bx s (st.next + 1) (fC fun i => if i < j then tR P g five k f i else f i) ∧ Bx s (st.next + 1 + 1) [us 0, us 0, us 0, us 0])
    ⟨0, Nat.zero_le _, e10, e1, ⟨f3, hnx⟩, b3, b5, b7⟩ fun j ρ s hk2 hI => ?_)
  clear e10 e1 b3 b5 b7 f1 f2 f3 hnx
  obtain ⟨hj4, e10, e1, ⟨kf, hnx⟩, b3, b5, b7⟩ := hI
  refine Ru.rs fun P hP => ?_
  simp -implicitDefEqProofs (disch := first | decide | omega) [hk2.e, e10]
  refine Rg.ret (hP _ _ ?_)
  clear hP P
  refine Ru.seq (Ru.cond rfl (fun h => Ru.skip ?_) fun h => Ru.exit ?_)
  · simp at h
    have hj : j < 4 := by omega
    simp only [Then, Out]
    have hr := b5.rd j _ (fC_get _ j hj)
    simp only [Nat.lt_irrefl, if_false] at hr
    have o5 := b5.own
    have hkl := gS_lt (g := g) hp hk j
    have hkl2 := gS_lt (g := g) hp hk (j + 1)
    have hfj := hf j hj
    have hmul : gS P g k j * g < 18446744073709551616 := mul_small (by omega) (by omega)
    refine Ru.seq (Ru.block (Ru.rs fun P hP => ?_))
    simp -implicitDefEqProofs (disch := first | decide | omega) [e10]
    refine Rg.ret (hP _ _ ?_)
    clear hP P
    refine Ru.rs fun P hP => ?_
    simp -implicitDefEqProofs (disch := first | decide | assumption | omega) [hk2.e, e1, e3, b3.rd 0 _ rfl, b3.rd 1 _ rfl]
    refine Rg.ret (hP _ _ ?_)
    clear hP P
    refine Ru.d1 fun P' hP => ?_
    have hks : gS P g k j * g % P = gS P g k (j + 1) := rfl
    rw [hks]
    have hml := Nat.mod_lt (f j + gS P g k (j + 1) + 7) hp
    simp -implicitDefEqProofs (disch := first | decide | omega) [hk2.e, e3, e5, hr, b3.rd 0 _ rfl, b3.N (n := 3) rfl]
    refine Rg.dn (fun v s5 => v = uv (tR P g five k f j) ∧ s5.next ≤ s.next + 2) (fun v h nx a b h1 => h1) kf.wf (by decide) (by decide) ((sPower hpf bpf (wf_setLow (h := kf.wf)) g five hp (by omega) (by omega)).imp fun v s5 h => ⟨h.1.1, h.2, by have := h.1.2; cases s; exact this⟩) fun v s5 k5 hv => ?_
    obtain ⟨hv, hnx5⟩ := hv
    subst hv
    have b5b := b5.fr k5
    have hdS := fun (al lm sm hv : Nat) (ll : List LL) (ss : List (Nat × Nat)) (n0 bit pre : Nat) (x : S) (K : V → Mk → St → R) (h : okS ⟨al, lm, sm, hv, [], ll, ss⟩ n0 pre (st.next + 1) = true) => dS_ok (st := s5) (n := 4) (off := j) (bit := bit) b5b.own (by omega) x K h
    simp -implicitDefEqProofs (disch := first | decide | omega | (apply okS_t; decide; (simp (decide := true) <;> omega))) [hk2.e, e5, hdS]
    refine Rg.ret (hP _ _ ?_)
    clear hP P' hdS
    have kf5 := kf.trans k5
    have kw := b5b.kpw kf5.wf (i := j) [us (tR P g five k f j)]
    have b5' := b5b.set (i := j) (by simpa using hj) (us (tR P g five k f j))
    rw [fC_set f (fun i => tR P g five k f i) j hj] at b5'
    simp only [Then, Out]
    refine Ru.r1 fun P hP => ?_
    simp -implicitDefEqProofs (disch := first | decide | omega) [e10]
    exact Rg.ret (hP _ _ ⟨by repeat first | exact hk2 | refine Keep.up (by rfl) ?_, j + 1, by omega, by omega, rfl, by simp (disch := first | decide | omega) [hks], ⟨kw.fr kf5 (fun id h => by cases h; omega) hw, by rw [wr_next]; omega⟩, (b3.fr k5).kp kw (ne_some (by omega)), b5', (b7.fr k5).kp kw (ne_some (by omega))⟩)
  simp at h
  obtain rfl : j = 4 := by omega
  simp only [Then, Out, if_true]
  have b5' : Bx s (st.next + 1) (fC (tR P g five k f)) := b5
  have t0 : tR P g five k f 0 < P := mpow_lt' hp _ _
  have t1 : tR P g five k f 1 < P := mpow_lt' hp _ _
  have t2 : tR P g five k f 2 < P := mpow_lt' hp _ _
  have t3 : tR P g five k f 3 < P := mpow_lt' hp _ _
  have hs : tR P g five k f 0 + tR P g five k f 1 + tR P g five k f 2 + tR P g five k f 3 = uR P g five k f := rfl
  refine Ru.rs fun P hP => ?_
  simp -implicitDefEqProofs (disch := first | decide | omega) [hk2.e, e5, b5'.rd 0 _ rfl, b5'.rd 1 _ rfl, b5'.rd 2 _ rfl, b5'.rd 3 _ rfl, hs]
  refine Rg.ret (hP _ _ ?_)
  clear hP P
  refine Ru.ds fun P' hP => ?_
  have hfill : ∀ tm K, fillK tm K [(0, 1, .c (uv ((uR P g five k f + tR P g five k f 0 + 2 * tR P g five k f 1) % P))), (1, 1, .c (uv ((uR P g five k f + tR P g five k f 1 + 2 * tR P g five k f 2) % P))), (2, 1, .c (uv ((uR P g five k f + tR P g five k f 2 + 2 * tR P g five k f 3) % P))), (3, 1, .c (uv ((uR P g five k f + tR P g five k f 3 + 2 * tR P g five k f 0) % P)))] [us 0, us 0, us 0, us 0] = K (fC (rR P g five k f)) := fun tm K => by
    rw [fill_sc tm K _ 0 _ _ (by simp), fill_sc tm K _ 1 _ _ (by simp [setRange]), fill_sc tm K _ 2 _ _ (by simp [setRange]), fill_sc tm K _ 3 _ _ (by simp [setRange]), fill_nil]; rfl
  have hdS := fun (al lm sm hv : Nat) (ll : List LL) (ss : List (Nat × Nat)) (n0 bit pre : Nat) (K : V → Mk → St → R) (h : okS ⟨al, lm, sm, hv, [], ll, ss⟩ n0 pre (st.next + 1 + 1) = true) => dS_agg (st := s) (bit := bit) (off := 0) (m := 4) (l := fC (rR P g five k f)) b7.own (by simp) rfl K h
  have hsl : uR P g five k f < 10000000000 := by rw [← hs]; omega
  simp -implicitDefEqProofs (disch := first | decide | omega | (apply okS_t; decide; (simp (decide := true) <;> omega))) [hk2.e, e3, e5, e7, e1, b5'.rd 0 _ rfl, b5'.rd 1 _ rfl, b5'.rd 2 _ rfl, b5'.rd 3 _ rfl, b3.rd 0 _ rfl, build_eq, hfill, hdS]
  refine Rg.ret (hP _ _ ?_)
  have kw := b7.kpw kf.wf (i := 0) (fC (rR P g five k f))
  have b9 := b7.setN (l' := fC (rR P g five k f)) rfl
  exact Ru.ret (hQ _ _ (resP.tmpCells' (n := 3) (id := st.next + 1 + 1) (off := 0) (l := fC (rR P g five k f)) (b := us (gS P g k 4)) rfl (by simp (disch := first | decide | omega) [hk2.e, e7]) (b9.N rfl) ⟨⟨kw.fr kf (fun id h => by cases h; omega) hw, by rw [wr_next]; omega⟩, rfl⟩))
def pI (P g : Nat) (five : Bool) : Nat → Nat → (Nat → Nat) → Nat × (Nat → Nat)
  | 0, k, f => (k, f)
  | n + 1, k, f => pI P g five n (gS P g k 4) (rR P g five k f)
theorem pI_succ (P g : Nat) (five : Bool) : ∀ n k f, pI P g five (n + 1) k f = (gS P g (pI P g five n k f).1 4, rR P g five (pI P g five n k f).1 (pI P g five n k f).2)
  | 0, k, f => rfl
  | n + 1, k, f => by
    show pI P g five (n + 1) _ _ = _
    rw [pI_succ P g five n]; rfl
theorem sPerm (hpf : F pw = some hPower) (bpf : Nat.blt pw yBase = true) (hrf : F rn = some (hRound pw)) (brf : Nat.blt rn yBase = true) (hmf : F pn = some (hPerm rn)) (bmf : Nat.blt pn yBase = true) (hw : WfS st) (hp : 1 < P) (hpl : P < 2147483648) (hgl : g < 4294967296) (f : Nat → Nat) (hf : ∀ j, j < 4 → f j < P) :
    Ca (cF F) pn [.agg (mC P g five), .agg (fC f)] st (fun v s => (Fr st s ∧ s.next ≤ st.next + 91) ∧ v = .agg (fC (pI P g five 8 1 f).2)) := by
  refine Ca.of (hf := hPerm rn) hmf bmf [q0, q1] [.cellN n4 q4] rfl rfl rfl fun Q hQ => ?_
  have f1 := (Fr.refl hw).new (mC P g five)
  have f2 := f1.new (fC f)
  have f3 := f2.new [us 0, us 0, us 0, us 0]
  have b2 : Bx (new (new (new st (mC P g five)) (fC f)) [us 0, us 0, us 0, us 0]) st.next (mC P g five) := ((Bx.new (s := st)).fr ((Fr.refl f1.wf).new _)).fr ((Fr.refl f2.wf).new _)
  have b3 : Bx (new (new (new st (mC P g five)) (fC f)) [us 0, us 0, us 0, us 0]) (st.next + 1) (fC f) := (Bx.new (s := new st (mC P g five))).fr ((Fr.refl f2.wf).new _)
  have b4 : Bx (new (new (new st (mC P g five)) (fC f)) [us 0, us 0, us 0, us 0]) (st.next + 1 + 1) [us 0, us 0, us 0, us 0] := Bx.new (s := new (new st (mC P g five)) (fC f))
  have hnx : (new (new (new st (mC P g five)) (fC f)) [us 0, us 0, us 0, us 0]).next ≤ st.next + 3 := by simp
  refine Ru.rs fun P hP => ?_
  simp -implicitDefEqProofs (disch := first | decide | omega)
  refine Rg.ret (hP _ _ ?_)
  clear hP P
  generalize new (new (new st (mC P g five)) (fC f)) [us 0, us 0, us 0, us 0] = s3 at *
  refine Ru.rs fun P hP => Rg.ret (hP _ _ ?_)
  clear hP P
  refine Ru.seq (Ru.rs fun P hP => Rg.ret (hP _ _ ?_))
  clear hP P
  refine Ru.at (fun ρ => ρ q2 = .sc (.ptr st.next 0) ∧ ρ q3 = .sc (.ptr (st.next + 1) 0) ∧ ρ q4 = .sc (.ptr (st.next + 1 + 1) 0) ∧ ρ q6 = iv 0 ∧ ρ q5 = uv 1) ⟨rfl, rfl, rfl, rfl, rfl⟩ fun ρ0 hE => ?_
  obtain ⟨e2, e3, e4, e6, e5⟩ := hE
  refine Ru.block (Ru.lp [q2, q3, q4] (fun j : Nat => 8 - j) (fun j ρ s => j ≤ 8 ∧ ρ q6 = iv j ∧ ρ q5 = uv (pI P g five j 1 f).1 ∧ ((pI P g five j 1 f).1 < P ∧ ∀ i, i < 4 → (pI P g five j 1 f).2 i < P) ∧ (Fr st s ∧ s.next ≤ st.next + 3 + 11 * j) ∧ Bx s st.next (mC P g five) ∧ Bx s (st.next + 1) (fC (pI P g five j 1 f).2) ∧ Bx s (st.next + 1 + 1) [us 0, us 0, us 0, us 0])
    ⟨0, Nat.zero_le _, e6, e5, ⟨hp, hf⟩, ⟨f3, hnx⟩, b2, b3, b4⟩ fun j ρ s hk2 hI => ?_)
  clear e6 e5 b2 b3 b4 f1 f2 f3 hnx
  obtain ⟨hj4, e6, e5, ⟨hkl, hfl⟩, ⟨kf, hnx⟩, b2, b3, b4⟩ := hI
  refine Ru.rs fun P hP => ?_
  simp -implicitDefEqProofs (disch := first | decide | omega) [hk2.e, e6]
  refine Rg.ret (hP _ _ ?_)
  clear hP P
  refine Ru.seq (Ru.cond rfl (fun h => Ru.skip ?_) fun h => Ru.exit ?_)
  · simp at h
    have hj : j < 8 := by omega
    simp only [Then, Out]
    refine Ru.seq (Ru.block (Ru.r1 fun P' hP => ?_))
    simp -implicitDefEqProofs (disch := first | decide | omega) [hk2.e, e5, e2, e3, b2.N (n := 3) rfl, b3.N (n := 4) rfl]
    refine Rg.call (sRound hpf bpf hrf brf kf.wf (by omega) hpl hgl hkl (pI P g five j 1 f).2 hfl) fun v s5 h => ?_
    obtain ⟨⟨k5, hnx5⟩, rfl⟩ := h
    have b3b := b3.fr k5
    have x0 := fun (c : CallK) (r : Ev) (K : V → St → R) => xE_sc (st := s5) [(false, [us (gS P g (pI P g five j 1 f).1 4)]), (true, fC (rR P g five (pI P g five j 1 f).1 (pI P g five j 1 f).2))] 0 (us (gS P g (pI P g five j 1 f).1 4)) c r K rfl
    have x1 := fun (c : CallK) (r : Ev) (K : V → St → R) => xE_agg (st := s5) [(false, [us (gS P g (pI P g five j 1 f).1 4)]), (true, fC (rR P g five (pI P g five j 1 f).1 (pI P g five j 1 f).2))] 1 (fC (rR P g five (pI P g five j 1 f).1 (pI P g five j 1 f).2)) c r K rfl
    have hst := fun (K : St → R) => b3b.stoN (l' := fC (rR P g five (pI P g five j 1 f).1 (pI P g five j 1 f).2)) (n := 4) rfl rfl K
    simp -implicitDefEqProofs (disch := first | decide | omega) [hk2.e, e3, x0, x1, hst]
    refine Rg.ret (hP _ _ ?_)
    clear hP P'
    have kf5 := kf.trans k5
    have kw := b3b.kpw kf5.wf (i := 0) (fC (rR P g five (pI P g five j 1 f).1 (pI P g five j 1 f).2))
    have b3' := b3b.setN (l' := fC (rR P g five (pI P g five j 1 f).1 (pI P g five j 1 f).2)) rfl
    simp only [Then, Out]
    refine Ru.r1 fun P' hP => ?_
    simp -implicitDefEqProofs (disch := first | decide | omega) [e6]
    refine Rg.ret (hP _ _ ⟨by repeat first | exact hk2 | refine Keep.up (by rfl) ?_, j + 1, by omega, by omega, rfl, by rw [pI_succ]; rfl, by rw [pI_succ]; exact ⟨gS_lt (by omega) hkl 4, fun i _ => Nat.mod_lt _ (by omega)⟩, ⟨kw.fr kf5 (fun id h => by cases h; omega) hw, by rw [wr_next]; omega⟩, (b2.fr k5).kp kw (ne_some (by omega)), by rw [pI_succ]; exact b3', (b4.fr k5).kp kw (ne_some (by omega))⟩)
  simp at h
  obtain rfl : j = 8 := by omega
  simp only [Then, Out, if_true]
  have hst := fun (K : St → R) => b4.stoN (l' := fC (pI P g five 8 1 f).2) (n := 4) rfl rfl K
  refine Ru.rs fun P' hP => ?_
  simp -implicitDefEqProofs (disch := first | decide | omega) [hk2.e, e3, e4, b3.N (n := 4) rfl, hst]
  refine Rg.ret (hP _ _ ?_)
  have kw := b4.kpw kf.wf (i := 0) (fC (pI P g five 8 1 f).2)
  have b9 := b4.setN (l' := fC (pI P g five 8 1 f).2) rfl
  exact Ru.ret (hQ _ _ (resP.cells (n := 3) (id := st.next + 1 + 1) (off := 0) (l := fC (pI P g five 8 1 f).2) (by simp (disch := first | decide | omega) [hk2.e, e4]) (b9.N rfl) ⟨⟨kw.fr kf (fun id h => by cases h; omega) hw, by rw [wr_next]; omega⟩, rfl⟩))
end
end Go.Proofs.YtebbnkahklbhiaaGreatDoor.Ev
namespace Go.Proofs.YtebbnkahklbhiaaGreatDoor.Ev
open Go.RowKit
set_option linter.unusedVariables false
/-! ### calls of the field's functions, each one step -/
noncomputable def fop (k P a b : Nat) : Nat := Nat.rec (motive := fun _ => Nat) (Nat.mod (Nat.add (Nat.mod a P) (Nat.mod b P)) P)
  (fun k _ => Nat.rec (motive := fun _ => Nat) (Nat.mod (Nat.mul (Nat.mod a P) (Nat.mod b P)) P) (fun _ _ => Nat.mod (Nat.add (Nat.mod a P) (Nat.mod (Nat.mod (Nat.sub P (Nat.mod b P)) P) P)) P) k) k
theorem fop_add (P a b : Nat) : fop 0 P a b = fadd P a b := rfl
theorem fop_mul (P a b : Nat) : fop 1 P a b = fmul P a b := rfl
theorem fop_sub (P a b : Nat) : fop 2 P a b = fsub P a b := rfl
noncomputable def bumpK (st : St) (K : St → R) : R := St.rec (motive := fun _ => R) (fun h nx lo => seqN (Nat.add nx 2) fun nx => K ⟨h, nx, lo⟩) st
noncomputable def bumped (n : Nat) (st : St) : St := ⟨st.heap, st.next + n, st.low⟩
theorem bumpK_eq (st : St) (K : St → R) : bumpK st K = K (bumped 2 st) := by
  cases st with
  | mk h nx lo => show seqN (Nat.add nx 2) (fun nx => K ⟨h, nx, lo⟩) = _; rw [seqN_eq]; rfl
noncomputable def bump9 (st : St) (K : St → R) : R := St.rec (motive := fun _ => R) (fun h nx lo => seqN (Nat.add nx 91) fun nx => K ⟨h, nx, lo⟩) st
theorem bump9_eq (st : St) (K : St → R) : bump9 st K = K (bumped 91 st) := by
  cases st with
  | mk h nx lo => show seqN (Nat.add nx 91) (fun nx => K ⟨h, nx, lo⟩) = _; rw [seqN_eq]; rfl
noncomputable def lineV (K : Nat → R) (E : R) : V → R
  | .agg (.int .u64 (.ofNat P) :: _) => iteB (Nat.blt 0 P) (iteB (Nat.blt P 4294967296) (K P) E) E
  | _ => E
noncomputable def kpow (P : Nat) (five : Bool) (x : Nat) : Nat := seqN (Nat.mod (Nat.mul x x) P) fun y => Nat.mod (Nat.mul (Bool.rec (motive := fun _ => Nat) y (Nat.mod (Nat.mul y y) P) five) x) P
theorem kpow_eq (P : Nat) (five : Bool) (x : Nat) : kpow P five x = mpow P five x := by
  unfold kpow mpow; rw [seqN_eq]; cases five <;> rfl
/-! the permutation, number by number -/
noncomputable def powK (P : Nat) (five : Bool) (x k : Nat) (K : Nat → R) : R := seqN (Nat.mod (Nat.add (Nat.add x k) 7) P) fun y => seqN (kpow P five y) K
noncomputable def rndK (P g : Nat) (five : Bool) (k a b c d : Nat) (K : Nat → Nat → Nat → Nat → Nat → R) : R :=
  seqN (Nat.mod (Nat.mul k g) P) fun k1 => powK P five a k1 fun a => seqN (Nat.mod (Nat.mul k1 g) P) fun k2 => powK P five b k2 fun b => seqN (Nat.mod (Nat.mul k2 g) P) fun k3 => powK P five c k3 fun c =>
  seqN (Nat.mod (Nat.mul k3 g) P) fun k4 => powK P five d k4 fun d => seqN (Nat.add (Nat.add (Nat.add a b) c) d) fun u =>
  seqN (Nat.mod (Nat.add (Nat.add u a) (Nat.mul 2 b)) P) fun a' => seqN (Nat.mod (Nat.add (Nat.add u b) (Nat.mul 2 c)) P) fun b' => seqN (Nat.mod (Nat.add (Nat.add u c) (Nat.mul 2 d)) P) fun c' => seqN (Nat.mod (Nat.add (Nat.add u d) (Nat.mul 2 a)) P) fun d' => K k4 a' b' c' d'
noncomputable def prmK (P g : Nat) (five : Bool) (n : Nat) : Nat → Nat → Nat → Nat → Nat → (Nat → Nat → Nat → Nat → R) → R :=
  Nat.rec (motive := fun _ => Nat → Nat → Nat → Nat → Nat → (Nat → Nat → Nat → Nat → R) → R) (fun _ a b c d K => K a b c d) (fun _ ih k a b c d K => rndK P g five k a b c d fun k a b c d => ih k a b c d K) n
theorem rndK_eq (P g : Nat) (five : Bool) (k : Nat) (f : Nat → Nat) (K : Nat → Nat → Nat → Nat → Nat → R) : rndK P g five k (f 0) (f 1) (f 2) (f 3) K = K (gS P g k 4) (rR P g five k f 0) (rR P g five k f 1) (rR P g five k f 2) (rR P g five k f 3) := by
  unfold rndK powK
  simp only [seqN_eq, kpow_eq]
  rfl
theorem prmK_eq (P g : Nat) (five : Bool) : ∀ (n k : Nat) (f : Nat → Nat) (K : Nat → Nat → Nat → Nat → R), prmK P g five n k (f 0) (f 1) (f 2) (f 3) K = K ((pI P g five n k f).2 0) ((pI P g five n k f).2 1) ((pI P g five n k f).2 2) ((pI P g five n k f).2 3)
  | 0, k, f, K => rfl
  | n + 1, k, f, K => by
    show rndK P g five k (f 0) (f 1) (f 2) (f 3) (fun k a b c d => prmK P g five n k a b c d K) = _
    rw [rndK_eq]
    exact prmK_eq P g five n (gS P g k 4) (rR P g five k f) K
def fQ (a b c d : Nat) : Nat → Nat
  | 0 => a
  | 1 => b
  | 2 => c
  | _ => d
noncomputable def fldK (call : CallK) (g k f : Nat) (args : List V) (st : St) (K : V → St → R) : R := match args with
  | [.agg [.int .u64 (.ofNat P), .int .u64 (.ofNat _), .bool five], .sc (.int .u64 (.ofNat x))] => iteB (Nat.beq k 4) (iteB (Nat.blt 0 P) (iteB (Nat.blt P 4294967296) (iteB (Nat.blt x 4294967296) (seqN (kpow P five x) fun r => bumpK st fun st => K (.sc (.int .u64 (.ofNat r))) st) (call f args st K)) (call f args st K)) (call f args st K)) (call f args st K)
  | [.agg [.int .u64 (.ofNat P), .int .u64 (.ofNat gg), .bool five], .agg [.int .u64 (.ofNat a), .int .u64 (.ofNat b), .int .u64 (.ofNat c), .int .u64 (.ofNat d)]] =>
    iteB (Nat.beq k 5) (iteB (Nat.blt 1 P) (iteB (Nat.blt P 2147483648) (iteB (Nat.blt gg 4294967296) (iteB (Nat.blt a P) (iteB (Nat.blt b P) (iteB (Nat.blt c P) (iteB (Nat.blt d P)
      (prmK P gg five 8 1 a b c d fun a b c d => bump9 st fun st => K (.agg [.int .u64 (.ofNat a), .int .u64 (.ofNat b), .int .u64 (.ofNat c), .int .u64 (.ofNat d)]) st) (call f args st K)) (call f args st K)) (call f args st K)) (call f args st K)) (call f args st K)) (call f args st K)) (call f args st K)) (call f args st K)
  | [.sc (.int .i64 (.ofNat x))] => iteB (Nat.beq k 3) (iteB (Nat.blt x 4) (loadNK st 5 g (Nat.mul x 5) (lineV (fun P => bumpK st fun st => K (.sc (.int .u64 (.ofNat P))) st) (call f args st K))) (call f args st K)) (call f args st K)
  | [.sc (.int .i64 (.ofNat x)), .sc (.int .u64 (.ofNat a)), .sc (.int .u64 (.ofNat b))] => iteB (Nat.blt k 3) (iteB (Nat.blt x 4) (loadNK st 5 g (Nat.mul x 5) (lineV (fun P => seqN (fop k P a b) fun r => bumpK st fun st => K (.sc (.int .u64 (.ofNat r))) st) (call f args st K))) (call f args st K)) (call f args st K)
  | _ => call f args st K
noncomputable def callS (T : Nat → Option Nat) (g : Nat) (call : CallK) : CallK := fun f args st K => Option.rec (motive := fun _ => R) (call f args st K) (fun k => fldK call g k f args st K) (T f)
noncomputable def runS (T : Nat → Option Nat) (g : Nat) (F : Nat → Option HF) (fuel : Nat) : HC → PM V → St → R :=
  Nat.rec (motive := fun _ => HC → PM V → St → R) (fun _ _ _ => .fail 0) (fun k ih => step (callS T g (callK F ih)) ih) fuel
noncomputable def runSO (T : Nat → Option Nat) (g : Nat) (l : List (Nat × List S)) (O : Nat → Option Bool) (F : Nat → Option HF) (fuel : Nat) : HC → PM V → St → R :=
  Nat.rec (motive := fun _ => HC → PM V → St → R) (fun _ _ _ => .fail 0) (fun k ih => step (callO l O (callS T g (callK F (runS T g F k)))) ih) fuel
/-- what is asked of S: each of its functions does what its number says, where the field's line lies -/
def SOk (F : Nat → Option HF) (T : Nat → Option Nat) (g : Nat) : Prop :=
  ∀ f k, T f = some k → Nat.blt f yBase = true ∧ (∃ hf, F f = some hf) ∧
    (k < 3 → ∀ st x P l a b, Lies st g x P l → Ca (cF F) f [iv x, uv a, uv b] st (fun v s => (Fr st s ∧ s.next ≤ st.next + 2) ∧ v = uv (fop k P a b))) ∧
    (k = 3 → ∀ st x P l, Lies st g x P l → Ca (cF F) f [iv x] st (fun v s => (Fr st s ∧ s.next ≤ st.next + 2) ∧ v = uv P)) ∧
    (k = 4 → ∀ st P q five x, WfS st → 0 < P → P < 4294967296 → x < 4294967296 → Ca (cF F) f [.agg [us P, us q, .bool five], uv x] st (fun v s => (Fr st s ∧ s.next ≤ st.next + 2) ∧ v = uv (mpow P five x))) ∧
    (k = 5 → ∀ st P q five h, WfS st → 1 < P → P < 2147483648 → q < 4294967296 → (∀ j, j < 4 → h j < P) → Ca (cF F) f [.agg (mC P q five), .agg (fC h)] st (fun v s => (Fr st s ∧ s.next ≤ st.next + 91) ∧ v = .agg (fC (pI P q five 8 1 h).2)))
/-- values of numbers alone: they mean the same everywhere -/
def Plain (v : V) : Prop := (∃ n, v = uv n) ∨ ∃ h, v = .agg (fC h)
theorem Plain.rel {v : V} (h : Plain v) {σ σ' : Map} {v' : Value} (hv : RelV σ' v v') : RelV σ v v' := by
  rcases h with ⟨n, rfl⟩ | ⟨f, rfl⟩
  · cases hv with
    | sc hv => cases hv; exact .sc (.int _ _)
  · cases hv with
    | agg hv =>
      refine .agg ?_
      generalize Array.toList _ = l at hv
      cases hv with | cons a1 hv => cases hv with | cons a2 hv => cases hv with | cons a3 hv => cases hv with | cons a4 hv => cases hv with | nil =>
        cases a1; cases a2; cases a3; cases a4
        exact .cons (.int _ _) (.cons (.int _ _) (.cons (.int _ _) (.cons (.int _ _) .nil)))
section
variable {P : Program} {g : Nat}
theorem okF_fn {f : Nat} {hf : HF} (h : okF P g f hf) : ∃ fn, P.funcs[f]? = some fn ∧ (fn.name == "runtime.NumGoroutine") = false ∧ fn.body.isNone = false := by
  obtain ⟨⟨cf, h1, _⟩, _⟩ := h
  unfold compF at h1
  split at h1
  · rename_i fn hfn
    split at h1
    · cases h1
    · rename_i hname
      split at h1
      · rename_i b rs hb hrs
        exact ⟨fn, hfn, by simpa using hname, by rw [hb]; rfl⟩
      · cases h1
  · cases h1
theorem grow_bumped (n : Nat) (st : St) : Grow st (bumped n st) :=
  ⟨Nat.le_add_right _ _, Nat.le_refl _, fun _ _ _ => rfl, fun _ _ h => h, fun _ b _ h => ⟨b, h, rfl⟩, fun hw id b h1 h2 => (by rw [show (bumped n st).heap.get id = st.heap.get id from rfl, hw id h1] at h2; cases h2), fun h id hid => h id (Nat.le_trans (Nat.le_add_right _ _) hid)⟩
theorem line_done {st : St} {gf i : Nat} {Kf : Nat → R} {E : R} {x : X} {tf : PM V} {sf : St} (h : iteB (Nat.blt i 4) (loadNK st 5 gf (Nat.mul i 5) (lineV Kf E)) E = .done x tf sf) :
    E = .done x tf sf ∨ ∃ (P : Nat) (l : List S), i < 4 ∧ rdN st gf (i * 5) 5 = some (us P :: l) ∧ 0 < P ∧ P < 4294967296 ∧ Kf P = .done x tf sf := by
  rw [iteB_eq] at h
  split at h
  · rename_i hi
    have hi := blt_of hi
    rw [loadNK_eq] at h
    have hm : Nat.mul i 5 = i * 5 := rfl
    rw [hm] at h
    cases hr : rdN st gf (i * 5) (4 + 1) with
    | none => rw [hr] at h; simp only [Option.elim_none, ldF] at h; split at h <;> cases h
    | some l0 =>
      rw [hr] at h
      simp only [Option.elim_some] at h
      unfold lineV at h
      split at h
      · rename_i P l he
        cases he
        rw [iteB_eq] at h
        split at h
        · rename_i hp
          rw [iteB_eq] at h
          split at h
          · rename_i hlt
            exact .inr ⟨P, l, hi, rfl, blt_of hp, blt_of hlt, h⟩
          · exact .inl h
        · exact .inl h
      · exact .inl h
  · exact .inl h
/-- a step of S: the call itself, or the answer, which is the function's at every memory that reads as this one -/
theorem fldK_done {F : Nat → Option HF} {T : Nat → Option Nat} {call : CallK} {gf k f : Nat} (hS : SOk F T gf) (hT : T f = some k) {args : List V} {st : St} {K : V → St → R} {x : X} {tf : PM V} {sf : St} (h : fldK call gf k f args st K = .done x tf sf) :
    call f args st K = .done x tf sf ∨ ∃ (n : Nat) (r : V), Plain r ∧ K r (bumped n st) = .done x tf sf ∧ ∀ st', WfS st' → (∀ n o, rdN st' gf o n = rdN st gf o n) → Ca (cF F) f args st' (fun v s => (Fr st' s ∧ s.next ≤ st'.next + n) ∧ v = r) := by
  obtain ⟨_, _, hca3, hca1, hca4, hca5⟩ := hS f k hT
  unfold fldK at h
  split at h
  · rename_i P q five y
    rw [iteB_eq] at h
    split at h
    · rename_i hk
      rw [iteB_eq] at h
      split at h
      · rename_i h1
        rw [iteB_eq] at h
        split at h
        · rename_i h2
          rw [iteB_eq] at h
          split at h
          · rename_i h3
            rw [seqN_eq, bumpK_eq, kpow_eq] at h
            exact .inr ⟨2, _, .inl ⟨_, rfl⟩, h, fun st' hw _ => hca4 (Nat.eq_of_beq_eq_true hk) st' P q five y hw (blt_of h1) (blt_of h2) (blt_of h3)⟩
          · exact .inl h
        · exact .inl h
      · exact .inl h
    · exact .inl h
  · rename_i P gg five a b c d
    have step : ∀ {b : Bool} {A B : R}, iteB b A B = .done x tf sf → (b = true ∧ A = .done x tf sf) ∨ B = .done x tf sf := fun {b A B} h => by
      cases b
      · exact .inr h
      · exact .inl ⟨rfl, h⟩
    rcases step h with ⟨hk, h⟩ | h
    rotate_left; · exact .inl h
    rcases step h with ⟨h1, h⟩ | h
    rotate_left; · exact .inl h
    rcases step h with ⟨h2, h⟩ | h
    rotate_left; · exact .inl h
    rcases step h with ⟨h3, h⟩ | h
    rotate_left; · exact .inl h
    rcases step h with ⟨h4, h⟩ | h
    rotate_left; · exact .inl h
    rcases step h with ⟨h5, h⟩ | h
    rotate_left; · exact .inl h
    rcases step h with ⟨h6, h⟩ | h
    rotate_left; · exact .inl h
    rcases step h with ⟨h7, h⟩ | h
    rotate_left; · exact .inl h
    have e := prmK_eq P gg five 8 1 (fQ a b c d) fun a b c d => bump9 st fun st => K (.agg [.int .u64 (.ofNat a), .int .u64 (.ofNat b), .int .u64 (.ofNat c), .int .u64 (.ofNat d)]) st
    have h8 := e.symm.trans h
    rw [bump9_eq] at h8
    refine .inr ⟨91, .agg (fC (pI P gg five 8 1 (fQ a b c d)).2), .inr ⟨_, rfl⟩, h8, fun st' hw _ => hca5 (Nat.eq_of_beq_eq_true hk) st' P gg five (fQ a b c d) hw (blt_of h1) (blt_of h2) (blt_of h3) fun j hj => ?_⟩
    rcases (show j = 0 ∨ j = 1 ∨ j = 2 ∨ j = 3 by omega) with rfl | rfl | rfl | rfl
    · exact blt_of h4
    · exact blt_of h5
    · exact blt_of h6
    · exact blt_of h7
  · rename_i i
    rw [iteB_eq] at h
    split at h
    · rename_i hk
      rcases line_done h with h | ⟨P, l, a1, a2, a3, a4, h⟩
      · exact .inl h
      · rw [bumpK_eq] at h
        exact .inr ⟨2, _, .inl ⟨_, rfl⟩, h, fun st' hw hr => hca1 (Nat.eq_of_beq_eq_true hk) st' i P l ⟨hw, a1, by rw [hr]; exact a2, a3, a4⟩⟩
    · exact .inl h
  · rename_i i a b
    rw [iteB_eq] at h
    split at h
    · rename_i hk
      rcases line_done h with h | ⟨P, l, a1, a2, a3, a4, h⟩
      · exact .inl h
      · simp only [seqN_eq, bumpK_eq] at h
        exact .inr ⟨2, _, .inl ⟨_, rfl⟩, h, fun st' hw hr => hca3 (blt_of hk) st' i P l a b ⟨hw, a1, by rw [hr]; exact a2, a3, a4⟩⟩
    · exact .inl h
  · exact .inl h
variable [LoopP]
theorem callS_ok {F : Nat → Option HF} (hLP : IsLP P g F) (hm : P.follows .mixedOrders = true) (hF : ∀ f cf, F f = some cf → okF P g f cf) {T : Nat → Option Nat} {gf : Nat} (hS : SOk F T gf) {call : CallK} (hcall : CallOk P g call) : CallOk P g (callS T gf call) := by
  intro f args st K x tf sf h
  unfold callS at h
  cases hSf : T f with
  | none => rw [hSf] at h; exact hcall f args st K x tf sf h
  | some k =>
    rw [hSf] at h
    rcases fldK_done hS hSf (show fldK call gf k f args st K = _ from h) with h | ⟨bn, r, hpl, hK, hca⟩
    · exact hcall f args st K x tf sf h
    obtain ⟨hb, ⟨hf, hff⟩, _⟩ := hS f k hSf
    refine ⟨_, bumped bn st, hK, grow_bumped bn st, .inl ⟨blt_of hb, okF_fn (hF f hf hff), fun σ args' w lim ha hgl hr' hfree hlim => ?_⟩⟩
    have hw : WfS (setLow st st.next) := fun id hid => by
      have := hr'.wf
      cases st; exact this id hid
    have hsame : ∀ n o, rdN (setLow st st.next) gf o n = rdN st gf o n := by
      intro n
      induction n with
      | zero => intro o; rfl
      | succ n ih => intro o; rw [rdN_succ, rdN_succ, ih, rd_setLow]
    obtain ⟨v, s, ⟨hFr, rfl⟩, n, hn⟩ := hca _ hw hsame
    let K' : V → St → R := fun v s => .done .normal (.node .leaf (some v) .leaf) s
    have hk : callK F (run F n) f args (setLow st st.next) K' = .done .normal (.node .leaf (some v) .leaf) s := hn n (Nat.le_refl _) K'
    obtain ⟨v1, st1, a1, a2, a345⟩ := callK_ok hLP hm hF n f _ _ K' _ _ _ hk
    have a1 : R.done .normal (PM.node .leaf (some v1) .leaf) st1 = R.done .normal (.node .leaf (some v) .leaf) s := a1
    simp only [R.done.injEq, PM.node.injEq, Option.some.injEq, true_and, and_true] at a1
    obtain ⟨rfl, rfl⟩ := a1
    rcases a345 with ⟨_, _, a4⟩ | ⟨a5, _⟩
    rotate_left
    · exact absurd a5 (by have := blt_of hb; omega)
    have hrs : RelH σ (setLow st st.next) w := by cases st; exact ⟨hr'.blk, hr'.inj, hr'.lt⟩
    have hnext : (setLow st st.next).next = st.next := by cases st; rfl
    have hfr : Free σ (setLow st st.next).next lim := by rw [hnext]; exact hfree
    have hle : st1.next ≤ lim := by
      have := hFr.2
      rw [hnext] at this
      have h2 : st.next + bn ≤ lim := hlim
      omega
    refine Calls.mono (a4 σ args' w lim ha hgl hrs hfr hle) fun e w' he => ?_
    obtain ⟨v', σ', he, E, hv⟩ := he
    have hlow : st.next ≤ st1.low := by
      have := hFr.1.low
      cases st; simpa [setLow] using this
    have hheap : ∀ B, B < w.heap.size → w'.heap[B]? = w.heap[B]? := fun B hB => E.frame B hB fun id b1 x1 hb1 _ hle _ => by
      have := hrs.lt id b1 hb1
      rw [hnext] at this
      omega
    refine ⟨v', σ, he, ⟨Map.le.refl σ, fun _ _ => rfl, Nat.le_add_right _ _, ⟨fun id b1 hb1 => ?_, hr'.inj, fun id b1 hb1 => Nat.lt_of_lt_of_le (hr'.lt id b1 hb1) (Nat.le_add_right _ _)⟩, E.size, E.os, E.tape, E.output, E.fro, fun B hB _ => hheap B hB, fun _ _ _ => rfl, fun _ _ h => h, fun id b' _ hb' => ⟨b', hb', rfl⟩,
      fun id b1 x1 hid hb1 _ => absurd (hr'.lt id b1 hb1) (by omega), fun id b1 hid hb1 => absurd (hr'.lt id b1 hb1) (by omega)⟩, ?_⟩
    · have hB := hr'.blk id b1 hb1
      obtain ⟨x1, hx1⟩ := hB.map
      exact hB.world hx1 (hheap _ (hB.lt hx1))
    · exact hpl.rel hv
theorem runS_ok {F : Nat → Option HF} (hLP : IsLP P g F) (hm : P.follows .mixedOrders = true) (hF : ∀ f cf, F f = some cf → okF P g f cf) {T : Nat → Option Nat} {gf : Nat} (hS : SOk F T gf) : ∀ k, CodeOk P g F k (runS T gf F k) ∧ CodeGr P g (runS T gf F k)
  | 0 => ⟨fun n code i hf hFi L hc e ok hrn tm st x tf sf hI h => by (cases h), fun n code L hc e tm st x tf sf h => by (cases h)⟩
  | k + 1 => by
    obtain ⟨h1, h2⟩ := runS_ok hLP hm hF hS k
    have hcall := callS_ok hLP hm hF hS (call_ok hLP hF h1 h2)
    exact ⟨fun n code => code_step hLP hm hcall h1 code, fun n code => code_grow hm hcall h2 code⟩
/-- known answers behind the field's steps -/
theorem callSO_ok {F : Nat → Option HF} (hLP : IsLP P g F) (hm : P.follows .mixedOrders = true) (hF : ∀ f cf, F f = some cf → okF P g f cf) {T : Nat → Option Nat} {gf : Nat} (hS : SOk F T gf) {l : List (Nat × List S)} {nx : Nat} (hl : listOk l nx = true) (hg : g ≤ nx) {O : Nat → Option Bool}
    (hO : ∀ f b, O f = some b → f < yBase ∧ ∃ k, callK F (runS T gf F k) f [] (stOf l nx) (saysB b) = .done .normal .leaf ⟨.leaf, 0, 0⟩) {call : CallK} (hcall : CallOk P g call) : CallOk P g (callO l O call) := by
  intro f args st K x tf sf h
  unfold callO at h
  split at h
  · exact hcall f args st K x tf sf h
  · rename_i b hb
    split at h
    · obtain ⟨hh, h1⟩ := ite_done h
      obtain ⟨hfb, k', hk⟩ := hO f b hb
      obtain ⟨v, st', a1, a2, a345⟩ := call_ok hLP hF (runS_ok hLP hm hF hS k').1 (runS_ok hLP hm hF hS k').2 f [] (stOf l nx) (saysB b) _ _ _ hk
      rcases a345 with ⟨_, a3, a4⟩ | ⟨a5, _⟩
      rotate_left
      · exact absurd a5 (by omega)
      obtain rfl := saysB_done a1
      refine ⟨.sc (.bool b), st, h1, Grow.refl st, .inl ⟨hfb, a3, fun σ args' w lim ha hgl hr hfree hlim => ?_⟩⟩
      have ha' : All2 (RelV (cut σ nx)) [] args'.toList := by
        generalize args'.toList = m at ha
        cases ha; exact .nil
      have hc := a4 (cut σ nx) args' w st'.next ha' (fun i hi => by obtain ⟨c, hc⟩ := hgl i hi; exact ⟨c, by unfold cut; rw [if_pos (by omega)]; exact hc⟩) (relH_part hr hh hl)
        (fun id h1 _ => by
          have h2 : nx ≤ id := h1
          unfold cut; rw [if_neg (by omega)]) (Nat.le_refl _)
      refine Calls.mono hc fun e w' he => ?_
      obtain ⟨v', σ', he, E, hv⟩ := he
      have hheap : ∀ B, B < w.heap.size → w'.heap[B]? = w.heap[B]? := fun B hB => E.frame B hB fun id b1 x1 hb1 ho => by
        obtain ⟨c, _, rfl⟩ := heapOf_get hb1; cases ho
      refine ⟨v', σ, he, ⟨Map.le.refl σ, fun _ _ => rfl, Nat.le_refl _, ⟨fun id b1 hb1 => ?_, hr.inj, hr.lt⟩, E.size, E.os, E.tape, E.output, E.fro, fun B hB _ => hheap B hB, fun _ _ _ => rfl, fun _ _ h => h, fun id b' _ hb' => ⟨b', hb', rfl⟩,
        fun id b1 x1 hid hb1 _ => absurd (hr.lt id b1 hb1) (by omega), fun id b1 hid hb1 => absurd (hr.lt id b1 hb1) (by omega)⟩, ?_⟩
      · have hB := hr.blk id b1 hb1
        obtain ⟨x1, hx1⟩ := hB.map
        exact hB.world hx1 (hheap _ (hB.lt hx1))
      · cases hv with
        | sc hv => cases hv; exact .sc (.bool _)
    · cases h
theorem runSO_ok {F : Nat → Option HF} (hLP : IsLP P g F) (hm : P.follows .mixedOrders = true) (hF : ∀ f cf, F f = some cf → okF P g f cf) {T : Nat → Option Nat} {gf : Nat} (hS : SOk F T gf) {l : List (Nat × List S)} {nx : Nat} (hl : listOk l nx = true) (hg : g ≤ nx) {O : Nat → Option Bool}
    (hO : ∀ f b, O f = some b → f < yBase ∧ ∃ k, callK F (runS T gf F k) f [] (stOf l nx) (saysB b) = .done .normal .leaf ⟨.leaf, 0, 0⟩) : ∀ k, CodeOk P g F k (runSO T gf l O F k) ∧ CodeGr P g (runSO T gf l O F k)
  | 0 => ⟨fun n code i hf hFi L hc e ok hrn tm st x tf sf hI h => by (cases h), fun n code L hc e tm st x tf sf h => by (cases h)⟩
  | k + 1 => by
    obtain ⟨h1, h2⟩ := runSO_ok hLP hm hF hS hl hg hO k
    have hcall := callSO_ok hLP hm hF hS hl hg hO (callS_ok hLP hm hF hS (call_ok hLP hF (runS_ok hLP hm hF hS k).1 (runS_ok hLP hm hF hS k).2))
    exact ⟨fun n code => code_step hLP hm hcall h1 code, fun n code => code_grow hm hcall h2 code⟩
omit [LoopP] in
/-- A LAW WHOSE ARGUMENTS ARE SCALARS, some of whose calls are known, the field's functions one step each -/
theorem scalar_lawS {W : World} {F : Nat → Option HF} (hm : P.follows .mixedOrders = true) {k f nx' nx gf : Nat} {T : Nat → Option Nat} {laid : List (String × DataW Unit)} {l : List (Nat × List S)} {O : Nat → Option Bool} (hF : ∀ f cf, F f = some cf → okF P g f cf)
    (hgl : ∀ n g', P.globalNamed n = some g' → g' < g) (hlaid : laidCells P laid g = some (l, nx')) (hl : listOk l nx = true) (hg : g ≤ nx) (hS : SOk F T gf)
    (hO : ∀ f b, O f = some b → f < yBase ∧ ∃ k, callK F (runS T gf F k) f [] (stOf l nx) (saysB b) = .done .normal .leaf ⟨.leaf, 0, 0⟩) (hfb : f < yBase) {args : List V} {args' : Array Value} (ha : ∀ σ, All2 (RelV σ) args args'.toList)
    (hrun : callK F (runSO T gf l O F k) f args (stOf l nx') saysTrue = .done .normal .leaf ⟨.leaf, 0, 0⟩) (hL : laidMet P laid W) :
    Calls P f args' W fun e w' => e = .returned (.bool true) ∧ Grown W w' := by
  letI : LoopP := lpOf P g F
  have hLP : IsLP P g F := fun _ _ _ _ _ => Iff.rfl
  obtain ⟨σ, h1, h2, h3⟩ := laid_rel hL hgl hlaid
  obtain ⟨v, st', a1, a2, a45⟩ := call_ok hLP hF (runSO_ok hLP hm hF hS hl hg hO k).1 (runSO_ok hLP hm hF hS hl hg hO k).2 f args (stOf l nx') saysTrue _ _ _ hrun
  rcases a45 with ⟨_, _, a4⟩ | ⟨a5, _⟩
  rotate_left
  · exact absurd a5 (by omega)
  refine Calls.mono (a4 σ args' W st'.next (ha σ) h2 h1 (h3 _) (Nat.le_refl _)) fun e w' he => ?_
  obtain ⟨v', σ', rfl, hext, hrel⟩ := he
  have hv : v = .sc (.bool true) := by
    unfold saysTrue at a1
    split at a1
    · rfl
    · cases a1
  subst hv
  cases hrel with
  | sc hr =>
    cases hr
    exact ⟨rfl, grown_of hext fun id b hb => by obtain ⟨c, _, rfl⟩ := heapOf_get hb; rfl⟩
end
end Go.Proofs.YtebbnkahklbhiaaGreatDoor.Ev
