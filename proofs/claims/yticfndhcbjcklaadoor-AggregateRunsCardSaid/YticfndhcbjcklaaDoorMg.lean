/- What the listed package variables hold, and the evaluator's runs, by the kernel; no conditions. -/
import Derived.Test.YticfndhcbjcklaaDoorMf
import Derived.Test.YticfndhcbjcklaaDoorMe
namespace Go.Proofs.YticfndhcbjcklaaDoor.Ev
set_option linter.unusedSimpArgs false
set_option linter.unusedVariables false
/-! a program inside a greater one -/
structure Emb (n N : Nat) (f : Nat → Nat) : Prop where
  rng : ∀ w, w < n → f w < N
  inj : ∀ w v, w < n → v < n → f w = f v → w = v
structure RelK (n N : Nat) (f : Nat → Nat) (b s : KV) : Prop where
  bk : b.1.length = N
  bv : b.2.length = N
  sk : s.1.length = n
  sv : s.2.length = n
  k : ∀ w, w < n → b.1[f w]? = s.1[w]?
  v : ∀ w, w < n → b.2[f w]? = s.2[w]?
def OutK (n : Nat) (f : Nat → Nat) (b b' : KV) : Prop := ∀ v, (∀ w, w < n → f w ≠ v) → b'.1[v]? = b.1[v]? ∧ b'.2[v]? = b.2[v]?
variable {n N : Nat} {f : Nat → Nat} {b s : KV}
theorem OutK.refl : OutK n f b b := fun v _ => ⟨rfl, rfl⟩
theorem OutK.trans {b' b'' : KV} (h : OutK n f b b') (k : OutK n f b' b'') : OutK n f b b'' := fun v hv => ⟨(k v hv).1.trans (h v hv).1, (k v hv).2.trans (h v hv).2⟩
theorem setV_rel (he : Emb n N f) (h : RelK n N f b s) {w : Nat} (hw : w < n) (x : Nat) : RelK n N f (setV b (f w) x) (setV s w x) ∧ OutK n f b (setV b (f w) x) := by
  have hg : b.1.getD (f w) true = s.1.getD w true := by rw [List.getD_eq_getElem?_getD, List.getD_eq_getElem?_getD, h.k w hw]
  unfold setV
  rw [hg]
  split
  · exact ⟨h, OutK.refl⟩
  · have hr := he.rng w hw
    have h1 := h.bk
    have h2 := h.bv
    have h3 := h.sk
    have h4 := h.sv
    refine ⟨⟨by simpa using h1, by simpa using h2, by simpa using h3, by simpa using h4, fun u hu => ?_, fun u hu => ?_⟩, fun u hu => ⟨?_, ?_⟩⟩
    · by_cases e : w = u
      · subst e
        rw [List.getElem?_set_self (by omega), List.getElem?_set_self (by omega)]
      · rw [List.getElem?_set_ne (fun hh => e (he.inj _ _ hw hu hh)), List.getElem?_set_ne e]; exact h.k u hu
    · by_cases e : w = u
      · subst e
        rw [List.getElem?_set_self (by omega), List.getElem?_set_self (by omega)]
      · rw [List.getElem?_set_ne (fun hh => e (he.inj _ _ hw hu hh)), List.getElem?_set_ne e]; exact h.v u hu
    · exact List.getElem?_set_ne (hu w hw)
    · exact List.getElem?_set_ne (hu w hw)
structure Mov (n : Nat) (f : Nat → Nat) (g h : GateD) : Prop where
  kind : h.kind = g.kind
  q : h.q = g.q
  round : h.round = g.round
  w : ∀ j, j < 4 → 0 ≤ g.w j → g.w j < n → h.w j = (f (g.w j).toNat : Nat)
  no : ∀ j, j < 4 → g.w j < 0 → h.w j = -1
theorem Mov.reads {g h : GateD} (m : Mov n f g h) (j : Nat) : readsD h j = readsD g j := by
  unfold readsD; rw [m.kind, m.q]
theorem vl_rel {A a : List Nat} (hv : ∀ w, w < n → A[f w]? = a[w]?) {w : Int} (h0 : 0 ≤ w) (h1 : w < n) : vl A ((f w.toNat : Nat) : Int) = vl a w := by
  unfold vl
  rw [Int.toNat_natCast, List.getD_eq_getElem?_getD, List.getD_eq_getElem?_getD, hv _ (by omega)]
theorem wrV_rel {A a : List Nat} (hv : ∀ w, w < n → A[f w]? = a[w]?) {g h : GateD} (m : Mov n f g h) (hin : InR g n) {j : Nat} (hj : j < 4) : wrV h A j = wrV g a j := by
  unfold wrV
  rw [m.reads]
  split
  · rename_i hr
    have := hin j hj hr
    rw [m.w j hj this.1 this.2, vl_rel hv this.1 this.2]
  · rfl
theorem totV_rel {P : Nat} {A a : List Nat} (hv : ∀ w, w < n → A[f w]? = a[w]?) {g h : GateD} (m : Mov n f g h) (hin : InR g n) : totV P h A = totV P g a := by
  unfold totV
  rw [wrV_rel hv m hin (by decide), wrV_rel hv m hin (by decide), m.q]
theorem rndV_congr {x : Nat} {r : Int} {u v : Nat → Nat} (h : ∀ j, j < 4 → u j = v j) {k : Nat} (hk : k < 4) : rndV x r u k = rndV x r v k := by
  unfold rndV rS
  have ht : ∀ q j, j < 4 → tS x q (fun j => u j % pC x) j = tS x q (fun j => v j % pC x) j := fun q j hj => by simp only [tS, h j hj]
  have hs : ∀ q, sumS x q (fun j => u j % pC x) = sumS x q (fun j => v j % pC x) := fun q => by
    unfold sumS
    rw [ht q 0 (by decide), ht q 1 (by decide), ht q 2 (by decide), ht q 3 (by decide)]
  rw [hs, ht _ k hk, ht _ ((k + 1) % 4) (Nat.mod_lt _ (by decide))]
theorem rnd_rel {x : Nat} {A a : List Nat} (hv : ∀ w, w < n → A[f w]? = a[w]?) {g h : GateD} (m : Mov n f g h) (hin : InR g n) (h3 : g.kind = 3) {k : Nat} (hk : k < 4) :
    rndV x h.round (fun j => vl A (h.w j)) k = rndV x g.round (fun j => vl a (g.w j)) k := by
  rw [m.round]
  refine rndV_congr (fun j hj => ?_) hk
  have := hin j hj (readsD3 h3 j)
  rw [m.w j hj this.1 this.2, vl_rel hv this.1 this.2]
theorem rndTo_rel (he : Emb n N f) {x : Nat} {g h g' h' : GateD} (m : Mov n f g h) (m' : Mov n f g' h') (hin : InR g n) (h3 : g.kind = 3) (hw : ∀ j, j < 4 → 0 ≤ g'.w j ∧ g'.w j < n) (hr : RelK n N f b s) :
    ∀ j, j ≤ 4 → RelK n N f (rndTo x h h' b j) (rndTo x g g' s j) ∧ OutK n f b (rndTo x h h' b j)
  | 0, _ => ⟨hr, OutK.refl⟩
  | j + 1, hj => by
    obtain ⟨h1, h2⟩ := rndTo_rel he m m' hin h3 hw hr j (by omega)
    have hwj := hw j (by omega)
    have e := rnd_rel (x := x) (A := b.2) (a := s.2) hr.v m hin h3 (show j < 4 by omega)
    unfold rndTo
    rw [e, m'.w j (by omega) hwj.1 hwj.2, Int.toNat_natCast]
    obtain ⟨h4, h5⟩ := setV_rel he h1 (show (g'.w j).toNat < n by omega) (rndV x g.round (fun j => vl s.2 (g.w j)) j)
    exact ⟨h4, h2.trans h5⟩
theorem stepV_rel (he : Emb n N f) {x : Nat} {vars : Int} (hn : (n : Int) = vars) {L J : List GateD} {i off : Nat} (hok : OkRow (pC x) vars L i) (hm : ∀ k g, L[k]? = some g → ∃ h, J[off + k]? = some h ∧ Mov n f g h) (hr : RelK n N f b s) :
    RelK n N f (stepV x J (off + i) b) (stepV x L i s) ∧ OutK n f b (stepV x J (off + i) b) := by
  obtain ⟨g, hg, hfm, hnx⟩ := hok
  obtain ⟨h, hh, m⟩ := hm i g hg
  have hin := formed_inR hfm hn
  unfold stepV
  rw [hg, hh]
  simp only
  rw [m.kind, m.q]
  by_cases h3 : g.kind = 3
  · rw [if_pos h3, if_pos h3]
    obtain ⟨g', hg', hw⟩ := hnx h3
    obtain ⟨h', hh', m'⟩ := hm (i + 1) g' hg'
    rw [hg', show off + i + 1 = off + (i + 1) by omega, hh']
    exact rndTo_rel he m m' hin h3 (fun j hj => by have := hw j hj; omega) hr 4 (Nat.le_refl _)
  · rw [if_neg h3, if_neg h3]
    by_cases hq : g.q 3 = 0
    · rw [if_neg (by simp [hq]), if_neg (by simp [hq])]; exact ⟨hr, OutK.refl⟩
    · rw [if_pos hq, if_pos hq]
      have hk1 : g.kind = 1 := by
        obtain ⟨_, _, _, _, _, h6, _⟩ := hfm
        rcases h6 with h | h
        · exact h
        · exact absurd (h 3 (by decide)) hq
      have hw2 := hin 2 (by decide) (by unfold readsD; simp [hk1, hq])
      rw [totV_rel hr.v m hin, m.w 2 (by decide) hw2.1 hw2.2, Int.toNat_natCast]
      exact setV_rel he hr (by omega) _
theorem runTo_rel (he : Emb n N f) {x : Nat} {vars : Int} (hn : (n : Int) = vars) {L J : List GateD} {off : Nat} (hok : ∀ i, i < L.length → OkRow (pC x) vars L i) (hm : ∀ k g, L[k]? = some g → ∃ h, J[off + k]? = some h ∧ Mov n f g h) {kb : KV} (hr : RelK n N f (runTo x J kb off) s) :
    ∀ i, i ≤ L.length → RelK n N f (runTo x J kb (off + i)) (runTo x L s i) ∧ OutK n f (runTo x J kb off) (runTo x J kb (off + i))
  | 0, _ => ⟨hr, OutK.refl⟩
  | i + 1, hi => by
    obtain ⟨h1, h2⟩ := runTo_rel he hn hok hm hr i (by omega)
    obtain ⟨h3, h4⟩ := stepV_rel he hn (hok i (by omega)) hm h1
    exact ⟨h3, h2.trans h4⟩
theorem hold_rel {x : Nat} {vars : Int} (hn : (n : Int) = vars) {L J : List GateD} {i off : Nat} (hok : OkRow (pC x) vars L i) (hm : ∀ k g, L[k]? = some g → ∃ h, J[off + k]? = some h ∧ Mov n f g h) {A a : List Nat} (hv : ∀ w, w < n → A[f w]? = a[w]?)
    {g h : GateD} (hg : L[i]? = some g) (hh : J[off + i]? = some h) : HoldR x J (off + i) h A ↔ HoldR x L i g a := by
  obtain ⟨g2, hg2, hfm, hnx⟩ := hok
  rw [hg] at hg2
  cases hg2
  obtain ⟨h2, hh2, m⟩ := hm i g hg
  rw [hh] at hh2
  cases hh2
  have hin := formed_inR hfm hn
  unfold HoldR
  rw [m.kind]
  by_cases h1 : g.kind = 1
  · rw [if_pos h1, if_pos h1, totV_rel hv m hin, wrV_rel hv m hin (by decide), m.q]
  · rw [if_neg h1, if_neg h1]
    by_cases h2 : g.kind = 2
    · rw [if_pos h2, if_pos h2]
      have := hin 0 (by decide) (readsD2 h2)
      rw [m.w 0 (by decide) this.1 this.2, vl_rel hv this.1 this.2]
    · rw [if_neg h2, if_neg h2]
      by_cases h3 : g.kind = 3
      · rw [if_pos h3, if_pos h3]
        obtain ⟨g', hg', hw⟩ := hnx h3
        obtain ⟨h', hh', m'⟩ := hm (i + 1) g' hg'
        have key : ∀ k, k < 4 → (vl A (h'.w k) = rndV x h.round (fun j => vl A (h.w j)) k ↔ vl a (g'.w k) = rndV x g.round (fun j => vl a (g.w j)) k) := fun k hk => by
          have hwk := hw k hk
          rw [rnd_rel hv m hin h3 hk, m'.w k hk hwk.1 (by omega), vl_rel hv hwk.1 (by omega)]
        constructor
        · rintro ⟨q, hq, hr⟩
          rw [show off + i + 1 = off + (i + 1) by omega, hh'] at hq
          cases hq
          exact ⟨g', hg', fun k hk => (key k hk).1 (hr k hk)⟩
        · rintro ⟨q, hq, hr⟩
          rw [hg'] at hq
          cases hq
          exact ⟨h', by rw [show off + i + 1 = off + (i + 1) by omega]; exact hh', fun k hk => (key k hk).2 (hr k hk)⟩
      · rw [if_neg h3, if_neg h3]
end Go.Proofs.YticfndhcbjcklaaDoor.Ev
namespace Go.Proofs.YticfndhcbjcklaaDoor.Ev
set_option linter.unusedSimpArgs false
set_option linter.unusedVariables false
/-! the depths of a program inside a greater one -/
structure RelD (n N : Nat) (f : Nat → Nat) (D d : List Int) : Prop where
  b : D.length = N
  s : d.length = n
  d : ∀ w, w < n → D[f w]? = d[w]?
def OutD (n : Nat) (f : Nat → Nat) (D D' : List Int) : Prop := ∀ v, (∀ w, w < n → f w ≠ v) → D'[v]? = D[v]?
variable {n N : Nat} {f : Nat → Nat} {D d : List Int}
theorem OutD.refl : OutD n f D D := fun v _ => rfl
theorem OutD.trans {D' D'' : List Int} (h : OutD n f D D') (k : OutD n f D' D'') : OutD n f D D'' := fun v hv => (k v hv).trans (h v hv)
theorem dat_rel (h : RelD n N f D d) {w : Int} (h0 : 0 ≤ w) (h1 : w < n) : dat D ((f w.toNat : Nat) : Int) = dat d w := by
  unfold dat
  rw [Int.toNat_natCast, h.d _ (by omega)]
theorem setR_rel (he : Emb n N f) (h : RelD n N f D d) (m : Int) {w : Int} (h0 : 0 ≤ w) (h1 : w < n) : RelD n N f (setR m D ((f w.toNat : Nat) : Int)) (setR m d w) ∧ OutD n f D (setR m D ((f w.toNat : Nat) : Int)) := by
  unfold setR
  rw [dat_rel h h0 h1, Int.toNat_natCast]
  split
  · have hr := he.rng w.toNat (by omega)
    have hb := h.b
    have hs := h.s
    refine ⟨⟨by simpa using hb, by simpa using hs, fun u hu => ?_⟩, fun u hu => List.getElem?_set_ne (hu w.toNat (by omega))⟩
    by_cases e : w.toNat = u
    · subst e
      rw [List.getElem?_set_self (by omega), List.getElem?_set_self (by omega)]
    · rw [List.getElem?_set_ne (fun hh => e (he.inj _ _ (by omega) hu hh)), List.getElem?_set_ne e]; exact h.d u hu
  · exact ⟨h, OutD.refl⟩
theorem fold_rel (he : Emb n N f) (m : Int) : ∀ (ws : List Int) {D d : List Int}, RelD n N f D d → (∀ w ∈ ws, 0 ≤ w ∧ w < n) →
    RelD n N f ((ws.map fun w => ((f w.toNat : Nat) : Int)).foldl (setR m) D) (ws.foldl (setR m) d) ∧ OutD n f D ((ws.map fun w => ((f w.toNat : Nat) : Int)).foldl (setR m) D)
  | [], D, d, h, _ => ⟨h, OutD.refl⟩
  | w :: ws, D, d, h, hw => by
    have h0 := hw w (List.mem_cons_self)
    obtain ⟨h1, h2⟩ := setR_rel he h m h0.1 h0.2
    obtain ⟨h3, h4⟩ := fold_rel he m ws h1 fun u hu => hw u (List.mem_cons_of_mem _ hu)
    exact ⟨h3, h2.trans h4⟩
theorem mostK_rel (h : RelD n N f D d) {g g' : GateD} (m : Mov n f g g') (hin : InR g n) : ∀ k, k ≤ 4 → mostK D g' k = mostK d g k
  | 0, _ => rfl
  | k + 1, hk => by
    have ih := mostK_rel h m hin k (by omega)
    unfold mostK
    rw [m.reads]
    split
    · rename_i hr
      have := hin k (by omega) hr
      rw [ih, m.w k (by omega) this.1 this.2, dat_rel h this.1 this.2]
    · exact ih
theorem badK_rel (h : RelD n N f D d) {g g' : GateD} (m : Mov n f g g') (hin : InR g n) {k : Nat} (hk : k < 4) : badK D g' k ↔ badK d g k := by
  unfold badK
  rw [m.reads, m.kind]
  constructor
  · rintro ⟨h1, h2, h3⟩
    have := hin k hk h1
    rw [m.w k hk this.1 this.2, dat_rel h this.1 this.2] at h2
    exact ⟨h1, h2, h3⟩
  · rintro ⟨h1, h2, h3⟩
    have := hin k hk h1
    refine ⟨h1, ?_, h3⟩
    rw [m.w k hk this.1 this.2, dat_rel h this.1 this.2]; exact h2
theorem defsR_rel {P : Nat} {vars : Int} (hn : (n : Int) = vars) {L J : List GateD} {i off : Nat} {g h : GateD} (hg : L[i]? = some g) (hfm : Formed P vars g) (hnx : g.kind = 3 → OkNext vars L i) (hm : ∀ k g, L[k]? = some g → ∃ h, J[off + k]? = some h ∧ Mov n f g h) (m : Mov n f g h) :
    defsR J (off + i) h = (defsR L i g).map (fun w => ((f w.toNat : Nat) : Int)) ∧ ∀ w ∈ defsR L i g, 0 ≤ w ∧ w < n := by
  have hin := formed_inR hfm hn
  unfold defsR
  rw [m.kind, m.q]
  by_cases h3 : g.kind = 3
  · rw [if_pos h3, if_pos h3]
    obtain ⟨g', hg', hw⟩ := hnx h3
    obtain ⟨h', hh', m'⟩ := hm (i + 1) g' hg'
    rw [hg', show off + i + 1 = off + (i + 1) by omega, hh']
    have hwn : ∀ j, j < 4 → 0 ≤ g'.w j ∧ g'.w j < n := fun j hj => by have := hw j hj; omega
    have e : ∀ j, j < 4 → h'.w j = ((f (g'.w j).toNat : Nat) : Int) := fun j hj => m'.w j hj (hwn j hj).1 (hwn j hj).2
    simp only
    rw [e 0 (by decide), e 1 (by decide), e 2 (by decide), e 3 (by decide)]
    refine ⟨rfl, fun w hw => ?_⟩
    simp at hw
    rcases hw with rfl | rfl | rfl | rfl
    · exact hwn 0 (by decide)
    · exact hwn 1 (by decide)
    · exact hwn 2 (by decide)
    · exact hwn 3 (by decide)
  · rw [if_neg h3, if_neg h3]
    by_cases hq : g.q 3 = 0
    · rw [if_neg (by simp [hq]), if_neg (by simp [hq])]
      exact ⟨rfl, fun w hw => by cases hw⟩
    · rw [if_pos hq, if_pos hq]
      have hk1 : g.kind = 1 := by
        obtain ⟨_, _, _, _, _, h6, _⟩ := hfm
        rcases h6 with h | h
        · exact h
        · exact absurd (h 3 (by decide)) hq
      have hw2 := hin 2 (by decide) (by unfold readsD; simp [hk1, hq])
      rw [m.w 2 (by decide) hw2.1 hw2.2]
      refine ⟨rfl, fun w hw => ?_⟩
      simp at hw; subst hw; exact hw2
theorem stepD_rel (he : Emb n N f) {P : Nat} {vars : Int} (hn : (n : Int) = vars) {L J : List GateD} {i off : Nat} (hok : OkRow P vars L i) (hm : ∀ k g, L[k]? = some g → ∃ h, J[off + k]? = some h ∧ Mov n f g h) (hr : RelD n N f D d) {d' : List Int} (hd : stepD L i d = some d') :
    ∃ D', stepD J (off + i) D = some D' ∧ RelD n N f D' d' ∧ OutD n f D D' := by
  obtain ⟨g, hg, hfm, hnx⟩ := hok
  obtain ⟨h, hh, m⟩ := hm i g hg
  have hin := formed_inR hfm hn
  have hnb : ∀ k, k < 4 → ¬ badK d g k := fun k hk hb => by rw [stepD_bad hg ⟨k, hk, hb⟩] at hd; cases hd
  rw [stepD_ok hg hnb] at hd
  cases hd
  obtain ⟨e1, e2⟩ := defsR_rel hn hg hfm hnx hm m
  obtain ⟨h1, h2⟩ := fold_rel he (mostK d g 4) (defsR L i g) hr e2
  refine ⟨_, stepD_ok hh (fun k hk hb => hnb k hk ((badK_rel hr m hin hk).1 hb)), ?_, ?_⟩
  · rw [e1, mostK_rel hr m hin 4 (Nat.le_refl _)]; exact h1
  · rw [e1, mostK_rel hr m hin 4 (Nat.le_refl _)]; exact h2
theorem walkD_rel (he : Emb n N f) {P : Nat} {vars : Int} (hn : (n : Int) = vars) {L J : List GateD} {off : Nat} (hok : ∀ i, i < L.length → OkRow P vars L i) (hm : ∀ k g, L[k]? = some g → ∃ h, J[off + k]? = some h ∧ Mov n f g h) {D0 d0 : List Int} (hD : walkD J D0 off = some D) (hr : RelD n N f D d0) :
    ∀ i, i ≤ L.length → ∀ d', walkD L d0 i = some d' → ∃ D', walkD J D0 (off + i) = some D' ∧ RelD n N f D' d' ∧ OutD n f D D'
  | 0, _, d', hd => by
    cases hd
    exact ⟨D, hD, hr, OutD.refl⟩
  | i + 1, hi, d', hd => by
    have hd2 : (walkD L d0 i).bind (stepD L i) = some d' := hd
    cases h1 : walkD L d0 i with
    | none => rw [h1] at hd2; cases hd2
    | some d1 =>
      rw [h1] at hd2
      obtain ⟨D1, e1, e2, e3⟩ := walkD_rel he hn hok hm hD hr i (by omega) d1 h1
      obtain ⟨D2, e4, e5, e6⟩ := stepD_rel he hn (hok i (by omega)) hm e2 hd2
      refine ⟨D2, ?_, e5, e3.trans e6⟩
      show (walkD J D0 (off + i)).bind (stepD J (off + i)) = some D2
      rw [e1]; exact e4
end Go.Proofs.YticfndhcbjcklaaDoor.Ev
namespace Go.Proofs.YticfndhcbjcklaaDoor.Ev
set_option linter.unusedSimpArgs false
set_option linter.unusedVariables false
/-! where the variables of the programs lie in the joined program -/
variable {l : List GatesD}
theorem oth_nn (hb : ∀ g ∈ l, Base g) : ∀ g ∈ l, 0 ≤ othN g := fun g hg => by have := (hb g hg).v0; show 0 ≤ g.vars - g.pub - g.sec; omega
theorem sm_lt {f : GatesD → Int} {l : List GatesD} {i j : Nat} {g : GatesD} (h : l[i]? = some g) (hij : i < j) (hf : ∀ g ∈ l, 0 ≤ f g) : sm f (l.take i) + f g ≤ sm f (l.take j) := by
  have h1 : (l.take j)[i]? = some g := by rw [List.getElem?_take, if_pos hij]; exact h
  have h2 := sm_split h1 fun g hg => hf g (List.mem_of_mem_take hg)
  rwa [List.take_take, Nat.min_eq_left (by omega)] at h2
theorem sm_sur {f : GatesD → Int} : ∀ {l : List GatesD}, (∀ g ∈ l, 0 ≤ f g) → ∀ u, 0 ≤ u → u < sm f l → ∃ i g, l[i]? = some g ∧ sm f (l.take i) ≤ u ∧ u < sm f (l.take i) + f g
  | [], _, u, h0, h1 => by simp [sm] at h1; omega
  | g :: l, hf, u, h0, h1 => by
    by_cases h : u < f g
    · exact ⟨0, g, rfl, by simpa [sm] using h0, by simpa [sm] using h⟩
    · have h1 : u < f g + sm f l := h1
      obtain ⟨i, g', e1, e2, e3⟩ := sm_sur (l := l) (fun g hg => hf g (List.mem_cons_of_mem _ hg)) (u - f g) (by omega) (by omega)
      refine ⟨i + 1, g', e1, ?_, ?_⟩
      · show f g + sm f (l.take i) ≤ u; omega
      · show u < f g + sm f (l.take i) + f g'; omega
theorem sm_vars : ∀ l : List GatesD, sm GatesD.vars l = sm GatesD.pub l + sm GatesD.sec l + sm othN l
  | [] => rfl
  | g :: l => by
    have := sm_vars l
    show g.vars + sm GatesD.vars l = g.pub + sm GatesD.pub l + (g.sec + sm GatesD.sec l) + (g.vars - g.pub - g.sec + sm othN l)
    omega
def emb (l : List GatesD) (i : Nat) (g : GatesD) (w : Nat) : Nat := (placeV g.pub g.sec (aI l i) (bI l i) (cI l i) (w : Int)).toNat
structure Iv (l : List GatesD) (i : Nat) (g : GatesD) : Prop where
  b : Base g
  p0 : 0 ≤ sm GatesD.pub (l.take i)
  p1 : sm GatesD.pub (l.take i) + g.pub ≤ sm GatesD.pub l
  s0 : 0 ≤ sm GatesD.sec (l.take i)
  s1 : sm GatesD.sec (l.take i) + g.sec ≤ sm GatesD.sec l
  o0 : 0 ≤ sm othN (l.take i)
  o1 : sm othN (l.take i) + othN g ≤ sm othN l
theorem iv_of (hb : ∀ g ∈ l, Base g) {i : Nat} {g : GatesD} (h : l[i]? = some g) : Iv l i g :=
  have hp := fun g hg => (hb g hg).p0
  have hs := fun g hg => (hb g hg).s0
  have ho := oth_nn hb
  ⟨hb g (List.mem_of_getElem? h), sm_ge fun g hg => hp g (List.mem_of_mem_take hg), sm_split h hp, sm_ge fun g hg => hs g (List.mem_of_mem_take hg), sm_split h hs, sm_ge fun g hg => ho g (List.mem_of_mem_take hg), sm_split h ho⟩
/-- the three parts -/
theorem emb_cases {i : Nat} {g : GatesD} (v : Iv l i g) {w : Nat} (hw : (w : Int) < g.vars) :
    ((w : Int) < g.pub ∧ (emb l i g w : Int) = sm GatesD.pub (l.take i) + w) ∨ (g.pub ≤ w ∧ (w : Int) < g.pub + g.sec ∧ (emb l i g w : Int) = sm GatesD.pub l + sm GatesD.sec (l.take i) + w - g.pub) ∨
      (g.pub + g.sec ≤ w ∧ (emb l i g w : Int) = sm GatesD.pub l + sm GatesD.sec l + sm othN (l.take i) + w - g.pub - g.sec) := by
  obtain ⟨b, p0, p1, s0, s1, o0, o1⟩ := v
  have c1 := b.p0
  have c2 := b.s0
  unfold emb placeV aI bI cI
  by_cases h1 : (w : Int) < g.pub
  · refine .inl ⟨h1, ?_⟩
    rw [if_neg (by omega), if_pos h1]; omega
  · by_cases h2 : (w : Int) < g.pub + g.sec
    · refine .inr (.inl ⟨by omega, h2, ?_⟩)
      rw [if_neg (by omega), if_neg h1, if_pos h2]; omega
    · refine .inr (.inr ⟨by omega, ?_⟩)
      rw [if_neg (by omega), if_neg h1, if_neg h2]; omega
theorem emb_place {i : Nat} {g : GatesD} (v : Iv l i g) {w : Int} (h0 : 0 ≤ w) (hw : w < g.vars) : placeV g.pub g.sec (aI l i) (bI l i) (cI l i) w = (emb l i g w.toNat : Nat) := by
  obtain ⟨b, p0, p1, s0, s1, o0, o1⟩ := v
  have c1 := b.p0
  have c2 := b.s0
  unfold emb
  rw [show ((w.toNat : Nat) : Int) = w by omega]
  have : 0 ≤ placeV g.pub g.sec (aI l i) (bI l i) (cI l i) w := by
    unfold placeV aI bI cI
    rw [if_neg (by omega)]
    split
    · omega
    · split <;> omega
  omega
theorem emb_emb (hb : ∀ g ∈ l, Base g) {i : Nat} {g : GatesD} (h : l[i]? = some g) : Emb g.vars.toNat (sm GatesD.vars l).toNat (emb l i g) := by
  have v := iv_of hb h
  have hs := sm_vars l
  have b := v.b
  have b1 := b.v0
  have b2 := b.p0
  have b3 := b.s0
  have q1 := v.p0
  have q2 := v.p1
  have q3 := v.s0
  have q4 := v.s1
  have q5 := v.o0
  have q6 : sm othN (l.take i) + (g.vars - g.pub - g.sec) ≤ sm othN l := v.o1
  refine ⟨fun w hw => ?_, fun w u hw hu he => ?_⟩
  · rcases emb_cases v (w := w) (by omega) with ⟨h1, h2⟩ | ⟨h1, h2, h3⟩ | ⟨h1, h2⟩ <;> omega
  · rcases emb_cases v (w := w) (by omega) with ⟨h1, h2⟩ | ⟨h1, h2, h3⟩ | ⟨h1, h2⟩ <;> rcases emb_cases v (w := u) (by omega) with ⟨k1, k2⟩ | ⟨k1, k2, k3⟩ | ⟨k1, k2⟩ <;> omega
theorem emb_dis' (hb : ∀ g ∈ l, Base g) {i j : Nat} {g k : GatesD} (h : l[i]? = some g) (h' : l[j]? = some k) (hij : i < j) {w u : Nat} (hw : w < g.vars.toNat) (hu : u < k.vars.toNat) : emb l i g w ≠ emb l j k u := by
  have v := iv_of hb h
  have v' := iv_of hb h'
  have m1 := sm_lt h hij fun g hg => (hb g hg).p0
  have m2 := sm_lt h hij fun g hg => (hb g hg).s0
  have m3 : sm othN (l.take i) + (g.vars - g.pub - g.sec) ≤ sm othN (l.take j) := sm_lt h hij (oth_nn hb)
  have b := v.b
  have b1 := b.v0
  have b2 := b.p0
  have b3 := b.s0
  have b' := v'.b
  have b1' := b'.v0
  have b2' := b'.p0
  have b3' := b'.s0
  have p0 := v.p0
  have p1 := v.p1
  have s0 := v.s0
  have s1 := v.s1
  have o0 := v.o0
  have p0' := v'.p0
  have p1' := v'.p1
  have s0' := v'.s0
  have s1' := v'.s1
  have o0' := v'.o0
  intro he
  rcases emb_cases v (w := w) (by omega) with ⟨h1, h2⟩ | ⟨h1, h2, h3⟩ | ⟨h1, h2⟩ <;> rcases emb_cases v' (w := u) (by omega) with ⟨k1, k2⟩ | ⟨k1, k2, k3⟩ | ⟨k1, k2⟩ <;> omega
theorem emb_dis (hb : ∀ g ∈ l, Base g) {i j : Nat} {g k : GatesD} (h : l[i]? = some g) (h' : l[j]? = some k) (hij : i ≠ j) {w u : Nat} (hw : w < g.vars.toNat) (hu : u < k.vars.toNat) : emb l i g w ≠ emb l j k u := by
  rcases Nat.lt_or_gt_of_ne hij with h1 | h1
  · exact emb_dis' hb h h' h1 hw hu
  · exact (emb_dis' hb h' h h1 hu hw).symm
theorem emb_sur (hb : ∀ g ∈ l, Base g) {u : Nat} (hu : u < (sm GatesD.vars l).toNat) : ∃ i g w, l[i]? = some g ∧ w < g.vars.toNat ∧ emb l i g w = u := by
  have hs := sm_vars l
  have hp := fun g hg => (hb g hg).p0
  have hsec := fun g hg => (hb g hg).s0
  have ho := oth_nn hb
  have n1 := sm_ge hp
  have n2 := sm_ge hsec
  have n3 := sm_ge ho
  by_cases h1 : (u : Int) < sm GatesD.pub l
  · obtain ⟨i, g, e1, e2, e3⟩ := sm_sur hp u (by omega) h1
    have v := iv_of hb e1
    have b1 := v.b.v0
    have b3 := v.b.s0
    refine ⟨i, g, (u - sm GatesD.pub (l.take i)).toNat, e1, by omega, ?_⟩
    rcases emb_cases v (w := (u - sm GatesD.pub (l.take i)).toNat) (by omega) with ⟨h1, h2⟩ | ⟨h1, h2, h3⟩ | ⟨h1, h2⟩ <;> omega
  · by_cases h2 : (u : Int) < sm GatesD.pub l + sm GatesD.sec l
    · obtain ⟨i, g, e1, e2, e3⟩ := sm_sur hsec (u - sm GatesD.pub l) (by omega) (by omega)
      have v := iv_of hb e1
      have b1 := v.b.v0
      have b2 := v.b.p0
      refine ⟨i, g, (u - sm GatesD.pub l - sm GatesD.sec (l.take i) + g.pub).toNat, e1, by omega, ?_⟩
      rcases emb_cases v (w := (u - sm GatesD.pub l - sm GatesD.sec (l.take i) + g.pub).toNat) (by omega) with ⟨h1, h2⟩ | ⟨h1, h2, h3⟩ | ⟨h1, h2⟩ <;> omega
    · obtain ⟨i, g, e1, e2, e3⟩ := sm_sur ho (u - sm GatesD.pub l - sm GatesD.sec l) (by omega) (by omega)
      have v := iv_of hb e1
      have b1 := v.b.v0
      have b2 := v.b.p0
      have b3 := v.b.s0
      have e3 : (u : Int) - sm GatesD.pub l - sm GatesD.sec l < sm othN (l.take i) + (g.vars - g.pub - g.sec) := e3
      refine ⟨i, g, (u - sm GatesD.pub l - sm GatesD.sec l - sm othN (l.take i) + g.pub + g.sec).toNat, e1, by omega, ?_⟩
      rcases emb_cases v (w := (u - sm GatesD.pub l - sm GatesD.sec l - sm othN (l.take i) + g.pub + g.sec).toNat) (by omega) with ⟨h1, h2⟩ | ⟨h1, h2, h3⟩ | ⟨h1, h2⟩ <;> omega
theorem emb_in {i : Nat} {g : GatesD} (v : Iv l i g) {w : Nat} (hw : w < g.vars.toNat) : emb l i g w < (sm GatesD.pub l + sm GatesD.sec l).toNat ↔ w < (g.pub + g.sec).toNat := by
  have b := v.b
  have b1 := b.v0
  have b2 := b.p0
  have b3 := b.s0
  have q1 := v.p0
  have q2 := v.p1
  have q3 := v.s0
  have q4 := v.s1
  have q5 := v.o0
  rcases emb_cases v (w := w) (by omega) with ⟨h1, h2⟩ | ⟨h1, h2, h3⟩ | ⟨h1, h2⟩ <;> omega
/-! the rows -/
def offI (l : List GatesD) (i : Nat) : Nat := (joinTo l i).length
theorem joinTo_pre (l : List GatesD) (i : Nat) : ∀ j, i ≤ j → ∃ r, joinTo l j = joinTo l i ++ r
  | 0, h => ⟨[], by rw [show i = 0 by omega]; simp⟩
  | j + 1, h => by
    by_cases e : i = j + 1
    · subst e; exact ⟨[], by simp⟩
    · obtain ⟨r, hr⟩ := joinTo_pre l i j (by omega)
      exact ⟨_, by show joinTo l j ++ _ = _; rw [hr, List.append_assoc]⟩
theorem join_row {i k : Nat} {g : GatesD} {r : GateD} (h : l[i]? = some g) (hr : g.rows[k]? = some r) : (joinTo l l.length)[offI l i + k]? = some (mvd l i g r) := by
  have hi := (List.getElem?_eq_some_iff.1 h).1
  have hk := (List.getElem?_eq_some_iff.1 hr).1
  obtain ⟨rest, he⟩ := joinTo_pre l (i + 1) l.length (by omega)
  rw [he, joinTo_succ h, List.append_assoc, List.getElem?_append_right (by unfold offI; omega)]
  rw [show offI l i + k - (joinTo l i).length = k by unfold offI; omega, List.getElem?_append_left (by simpa using hk), List.getElem?_map, hr]; rfl
theorem join_mov (hb : ∀ g ∈ l, Base g) {i : Nat} {g : GatesD} (h : l[i]? = some g) : ∀ k r, g.rows[k]? = some r → ∃ h, (joinTo l l.length)[offI l i + k]? = some h ∧ Mov g.vars.toNat (emb l i g) r h := fun k r hr => by
  have v := iv_of hb h
  have b1 := v.b.v0
  have b2 := v.b.p0
  have b3 := v.b.s0
  refine ⟨_, join_row h hr, rfl, rfl, rfl, fun j hj h0 h1 => emb_place v h0 (by omega), fun j hj h0 => ?_⟩
  show placeV _ _ _ _ _ (r.w j) = -1
  unfold placeV; rw [if_pos h0]
theorem off_succ {i : Nat} {g : GatesD} (h : l[i]? = some g) : offI l (i + 1) = offI l i + g.rows.length := by
  unfold offI; rw [joinTo_succ h]; simp
/-- every row of the joined program is a row of a program -/
theorem join_sur : ∀ (n : Nat), n ≤ l.length → ∀ q, q < offI l n → ∃ i g k r, l[i]? = some g ∧ g.rows[k]? = some r ∧ q = offI l i + k
  | 0, _, q, hq => by simp [offI, joinTo] at hq
  | n + 1, hn, q, hq => by
    have hg := List.getElem?_eq_getElem (show n < l.length by omega)
    rw [off_succ hg] at hq
    by_cases h : q < offI l n
    · exact join_sur n (by omega) q h
    · exact ⟨n, l[n], q - offI l n, _, hg, List.getElem?_eq_getElem (by omega), by omega⟩
end Go.Proofs.YticfndhcbjcklaaDoor.Ev
namespace Go.Proofs.YticfndhcbjcklaaDoor.Ev
set_option linter.unusedSimpArgs false
set_option linter.unusedVariables false
variable {l : List GatesD}
def jp (l : List GatesD) (y : S) : GatesD := ⟨lastF l, sm GatesD.vars l, sm GatesD.pub l, sm GatesD.sec l, joinTo l l.length, y⟩
theorem last_field (hV : AllV l) {i : Nat} {g : GatesD} (h : l[i]? = some g) : g.field = lastF l := by
  have hi := (List.getElem?_eq_some_iff.1 h).1
  have hl := List.getElem?_eq_getElem (show l.length - 1 < l.length by omega)
  have h1 := lastF_take hl
  rw [show l.length - 1 + 1 = l.length by omega, List.take_length] at h1
  obtain ⟨_, g0, e1, e2⟩ := hV i g h
  obtain ⟨_, g1, e3, e4⟩ := hV _ _ hl
  rw [e1] at e3; cases e3
  rw [h1, e2, e4]
theorem join_valid (hV : AllV l) (hR : RoomP l) (hne : l ≠ []) (h24 : l.length ≤ 24) (y : S) : ValidG (jp l y) := by
  have hb := allV_base hV
  have hl0 : 0 < l.length := List.length_pos_iff.2 hne
  have hg0 := List.getElem?_eq_getElem hl0
  have hfe := last_field hV hg0
  have hb0 := hb _ (List.mem_of_getElem? hg0)
  have sB := smB h24 hb
  have hs := sm_vars l
  have ho := sm_ge (oth_nn hb)
  have hlen := joinTo_len l l.length (Nat.le_refl _)
  rw [List.take_length] at hlen
  have hr8 := hR.r
  have hN : (((sm GatesD.vars l).toNat : Nat) : Int) = sm GatesD.vars l := by have := sB.v0; omega
  refine ⟨⟨by rw [show (jp l y).field = lastF l from rfl, ← hfe]; exact hb0.f0, by rw [show (jp l y).field = lastF l from rfl, ← hfe]; exact hb0.f4, sB.p0, hR.p, sB.s0, hR.s, by show sm GatesD.pub l + sm GatesD.sec l ≤ sm GatesD.vars l; omega, hR.v, by show (joinTo l l.length).length ≤ 8000; omega⟩, fun q hq => ?_, ?_⟩
  · obtain ⟨i, g, k, r, hg, hr, rfl⟩ := join_sur l.length (Nat.le_refl _) q hq
    have v := iv_of hb hg
    have he := emb_emb hb hg
    have hvg := (hV i g hg).1
    have b1 := v.b.v0
    have b2 := v.b.p0
    have b3 := v.b.s0
    have hng : ((g.vars.toNat : Nat) : Int) = g.vars := by omega
    obtain ⟨r2, hr2, hfm, hnx⟩ := hvg.rows k (List.getElem?_eq_some_iff.1 hr).1
    rw [hr] at hr2; cases hr2
    have hm := join_mov hb hg
    obtain ⟨h, hh, m⟩ := hm k r hr
    refine ⟨h, hh, ?_, fun h3 => ?_⟩
    · obtain ⟨f1, f2, f3, f4, f5, f6, f7⟩ := hfm
      have hpf : (jp l y).field.toNat = g.field.toNat := by rw [last_field hV hg]; rfl
      rw [hpf]
      refine ⟨by rw [m.kind]; exact f1, by rw [m.round]; exact f2, by rw [m.round]; exact f3, by rw [m.kind, m.round]; exact f4, by rw [m.q]; exact f5, by rw [m.kind, m.q]; exact f6, fun j hj => ?_⟩
      have := f7 j hj
      show -1 ≤ h.w j ∧ h.w j < sm GatesD.vars l ∧ _
      rw [m.reads]
      by_cases h0 : g.pub < 0
      · omega
      by_cases hw : r.w j < 0
      · rw [m.no j hj hw]
        exact ⟨by omega, by have := sB.v0; omega, fun hr => absurd (this.2.2 hr) (by omega)⟩
      · rw [m.w j hj (by omega) (by omega)]
        have := he.rng (r.w j).toNat (by omega)
        exact ⟨by omega, by omega, fun _ => by omega⟩
    · rw [m.kind] at h3
      obtain ⟨g', hg', hw⟩ := hnx h3
      obtain ⟨h', hh', m'⟩ := hm (k + 1) g' hg'
      refine ⟨h', hh', fun j hj => ?_⟩
      have hwj := hw j hj
      rw [m'.w j hj hwj.1 (by omega)]
      have := he.rng (g'.w j).toNat (by omega)
      show (0 : Int) ≤ _ ∧ _ < sm GatesD.vars l
      omega
  · have claim : ∀ m, m ≤ l.length → ∃ D, walkD (joinTo l l.length) (d0L (sm GatesD.vars l).toNat (sm GatesD.pub l + sm GatesD.sec l).toNat) (offI l m) = some D ∧ D.length = (sm GatesD.vars l).toNat ∧
        ∀ i g, l[i]? = some g → ∃ d, RelD g.vars.toNat (sm GatesD.vars l).toNat (emb l i g) D d ∧ (i < m → (-1 : Int) ∉ d) ∧ (m ≤ i → d = d0L g.vars.toNat (g.pub + g.sec).toNat) := by
      intro m
      induction m with
      | zero =>
        intro _
        refine ⟨_, rfl, d0L_len _ _, fun i g hg => ⟨d0L g.vars.toNat (g.pub + g.sec).toNat, ⟨d0L_len _ _, d0L_len _ _, fun w hw => ?_⟩, fun h => by omega, fun _ => rfl⟩⟩
        have v := iv_of hb hg
        have he := (emb_emb hb hg).rng w hw
        have hi := emb_in v hw
        unfold d0L
        rw [List.getElem?_map, List.getElem?_map, List.getElem?_range he, List.getElem?_range hw]
        simp only [Option.map_some]
        by_cases h : w < (g.pub + g.sec).toNat
        · rw [if_pos h, if_pos (hi.2 h)]
        · rw [if_neg h, if_neg (fun hh => h (hi.1 hh))]
      | succ m ih =>
        intro hm
        obtain ⟨D, e1, e0, e2⟩ := ih (by omega)
        have hg := List.getElem?_eq_getElem (show m < l.length by omega)
        generalize l[m] = g at hg
        have v := iv_of hb hg
        have b1 := v.b.v0
        have b2 := v.b.p0
        have b3 := v.b.s0
        have hvg := (hV m g hg).1
        obtain ⟨d, r1, _, r3⟩ := e2 m g hg
        rw [r3 (Nat.le_refl _)] at r1
        obtain ⟨d', w1, w2⟩ := hvg.walk
        obtain ⟨D', k1, k2, k3⟩ := walkD_rel (emb_emb hb hg) (vars := g.vars) (by omega) hvg.rows (join_mov hb hg) e1 r1 g.rows.length (Nat.le_refl _) d' w1
        rw [← off_succ hg] at k1
        refine ⟨D', k1, k2.b, fun i g' hg' => ?_⟩
        by_cases him : i = m
        · subst him
          rw [hg] at hg'; cases hg'
          exact ⟨d', k2, fun _ => w2, fun h => by omega⟩
        · obtain ⟨d2, q1, q2, q3⟩ := e2 i g' hg'
          refine ⟨d2, ⟨k2.b, q1.s, fun w hw => ?_⟩, fun h => q2 (by omega), fun h => q3 (by omega)⟩
          rw [k3 _ (fun u hu => emb_dis hb hg hg' (fun h => him h.symm) hu hw)]
          exact q1.d w hw
    obtain ⟨D, e1, e0, e2⟩ := claim l.length (Nat.le_refl _)
    refine ⟨D, e1, fun hmem => ?_⟩
    obtain ⟨u, hu⟩ := List.getElem?_of_mem hmem
    have hul := (List.getElem?_eq_some_iff.1 hu).1
    obtain ⟨i, g, w, hg, hw, rfl⟩ := emb_sur hb (u := u) (by omega)
    obtain ⟨d, r1, r2, _⟩ := e2 i g hg
    rw [r1.d w hw] at hu
    exact r2 (List.getElem?_eq_some_iff.1 hg).1 (List.mem_of_getElem? hu)
/-! the run of the joined program -/
theorem allNs_get : ∀ {ls : List NsD} {k : Nat} {e : NsD}, ls[k]? = some e → ∀ w, w < e.ns.length → (allNs ls)[(allNs (ls.take k)).length + w]? = e.ns[w]?
  | [], k, e, h, w, hw => by simp at h
  | a :: ls, 0, e, h, w, hw => by
    simp at h; subst h
    show (a.ns ++ allNs ls)[0 + w]? = _
    rw [Nat.zero_add, List.getElem?_append_left hw]
  | a :: ls, k + 1, e, h, w, hw => by
    have ih := allNs_get (ls := ls) (k := k) (e := e) (by simpa using h) w hw
    show (a.ns ++ allNs ls)[(a.ns ++ allNs (ls.take k)).length + w]? = _
    rw [List.length_append, List.getElem?_append_right (by omega), show a.ns.length + (allNs (ls.take k)).length + w - a.ns.length = (allNs (ls.take k)).length + w by omega]
    exact ih
theorem allNs_len {w : GatesD → Int} {ls : List NsD} (h : OneOk w l ls) : ∀ k, k ≤ l.length → ((allNs (ls.take k)).length : Int) = sm w (l.take k)
  | 0, _ => by simp [allNs, sm]
  | k + 1, hk => by
    have h1 := h.1
    have hg := List.getElem?_eq_getElem (show k < l.length by omega)
    have he := List.getElem?_eq_getElem (show k < ls.length by omega)
    have hr := (h.2 k _ _ hg he).1
    rw [sm_take hg, List.take_add_one, he]
    show ((allNs (ls.take k ++ [ls[k]])).length : Int) = _
    rw [allNs_snoc, List.length_append, Int.natCast_add, allNs_len h k (by omega), hr]
theorem kv0_rel (hb : ∀ g ∈ l, Base g) {A B : List NsD} (hA : OneOk GatesD.pub l A) (hB : OneOk GatesD.sec l B) (y : S) {i : Nat} {g : GatesD} {a b : NsD} (hg : l[i]? = some g) (ha : A[i]? = some a) (hbb : B[i]? = some b) :
    RelK g.vars.toNat (sm GatesD.vars l).toNat (emb l i g) (kv0 (jp l y) (allNs A) (allNs B)) (kv0 g a.ns b.ns) := by
  have v := iv_of hb hg
  have hs := sm_vars l
  have ho := sm_ge (oth_nn hb)
  have b1 := v.b.v0
  have b2 := v.b.p0
  have b3 := v.b.s0
  have la := (hA.2 i g a hg ha).1
  have lb := (hB.2 i g b hg hbb).1
  have hAl : A.length = l.length := hA.1
  have hBl : B.length = l.length := hB.1
  have tA := allNs_len hA l.length (Nat.le_refl _)
  have tB := allNs_len hB l.length (Nat.le_refl _)
  rw [List.take_length, List.take_of_length_le (by omega)] at tA
  rw [List.take_length, List.take_of_length_le (by omega)] at tB
  have hi := (List.getElem?_eq_some_iff.1 hg).1
  have iA := allNs_len hA i (by omega)
  have iB := allNs_len hB i (by omega)
  refine ⟨knL_len _ _, v0L_len (by show _ ≤ (sm GatesD.vars l).toNat; omega), knL_len _ _, v0L_len (by omega), fun w hw => ?_, fun w hw => ?_⟩
  · have hr := (emb_emb hb hg).rng w hw
    have hin := emb_in v hw
    show (knL (sm GatesD.vars l).toNat (sm GatesD.pub l + sm GatesD.sec l).toNat)[emb l i g w]? = (knL g.vars.toNat (g.pub + g.sec).toNat)[w]?
    unfold knL
    rw [List.getElem?_map, List.getElem?_map, List.getElem?_range hr, List.getElem?_range hw]
    simp only [Option.map_some]
    congr 1
    exact decide_eq_decide.2 hin
  · show (v0L (sm GatesD.vars l).toNat (allNs A) (allNs B))[emb l i g w]? = (v0L g.vars.toNat a.ns b.ns)[w]?
    unfold v0L
    have p0 := v.p0
    have p1 := v.p1
    have s0 := v.s0
    have s1 := v.s1
    have o0 := v.o0
    have o1 : sm othN (l.take i) + (g.vars - g.pub - g.sec) ≤ sm othN l := v.o1
    rcases emb_cases v (w := w) (by omega) with ⟨h1, h2⟩ | ⟨h1, h2, h3⟩ | ⟨h1, h2⟩
    · rw [List.getElem?_append_left (by rw [List.length_append]; omega), List.getElem?_append_left (by omega), List.getElem?_append_left (by rw [List.length_append]; omega), List.getElem?_append_left (by omega)]
      rw [show emb l i g w = (allNs (A.take i)).length + w by omega]
      exact allNs_get ha w (by omega)
    · rw [List.getElem?_append_left (by rw [List.length_append]; omega), List.getElem?_append_right (by omega), List.getElem?_append_left (by rw [List.length_append]; omega), List.getElem?_append_right (by omega)]
      rw [show emb l i g w - (allNs A).length = (allNs (B.take i)).length + (w - a.ns.length) by omega]
      exact allNs_get hbb _ (by omega)
    · rw [List.getElem?_append_right (by rw [List.length_append]; omega), List.getElem?_append_right (by rw [List.length_append]; omega), List.getElem?_replicate, List.getElem?_replicate, if_pos (by rw [List.length_append]; omega), if_pos (by rw [List.length_append]; omega)]
theorem join_run (hV : AllV l) {A B : List NsD} (hA : OneOk GatesD.pub l A) (hB : OneOk GatesD.sec l B) (y : S) :
    ∀ m, m ≤ l.length → ∀ (i : Nat) (g : GatesD) (a b : NsD), l[i]? = some g → A[i]? = some a → B[i]? = some b → RelK g.vars.toNat (sm GatesD.vars l).toNat (emb l i g) (runTo (lastF l).toNat (joinTo l l.length) (kv0 (jp l y) (allNs A) (allNs B)) (offI l m)) (if i < m then runV g a.ns b.ns else kv0 g a.ns b.ns) := by
  have hb := allV_base hV
  intro m
  induction m with
  | zero =>
    intro _ i g a b hg ha hbb
    rw [if_neg (by omega)]
    exact kv0_rel hb hA hB y hg ha hbb
  | succ m ih =>
    intro hm i g a b hg ha hbb
    have ih := ih (by omega)
    have hgm := List.getElem?_eq_getElem (show m < l.length by omega)
    have hAl : m < A.length := by have := hA.1; omega
    have hBl : m < B.length := by have := hB.1; omega
    have ham := List.getElem?_eq_getElem hAl
    have hbm := List.getElem?_eq_getElem hBl
    generalize l[m] = gm at hgm
    generalize A[m] = am at ham
    generalize B[m] = bm at hbm
    have h0 := ih m gm am bm hgm ham hbm
    rw [if_neg (by omega)] at h0
    have v := iv_of hb hgm
    have b1 := v.b.v0
    have b2 := v.b.p0
    have b3 := v.b.s0
    have hvg := (hV m gm hgm).1
    have hf : gm.field = lastF l := last_field hV hgm
    have hrows := hvg.rows
    rw [hf] at hrows
    obtain ⟨k1, k2⟩ := runTo_rel (emb_emb hb hgm) (vars := gm.vars) (by omega) hrows (join_mov hb hgm) h0 gm.rows.length (Nat.le_refl _)
    rw [← off_succ hgm] at k1 k2
    by_cases him : i = m
    · subst him
      rw [hgm] at hg; cases hg
      rw [ham] at ha; cases ha
      rw [hbm] at hbb; cases hbb
      rw [if_pos (by omega)]
      unfold runV
      rw [hf]
      exact k1
    · have h1 := ih i g a b hg ha hbb
      have e : (if i < m + 1 then runV g a.ns b.ns else kv0 g a.ns b.ns) = (if i < m then runV g a.ns b.ns else kv0 g a.ns b.ns) := by
        by_cases h : i < m
        · rw [if_pos h, if_pos (by omega)]
        · rw [if_neg h, if_neg (by omega)]
      rw [e]
      refine ⟨k1.bk, k1.bv, h1.sk, h1.sv, fun w hw => ?_, fun w hw => ?_⟩
      · rw [(k2 _ (fun u hu => emb_dis hb hgm hg (fun h => him h.symm) hu hw)).1]; exact h1.k w hw
      · rw [(k2 _ (fun u hu => emb_dis hb hgm hg (fun h => him h.symm) hu hw)).2]; exact h1.v w hw
theorem join_vals (hV : AllV l) {A B : List NsD} (hA : OneOk GatesD.pub l A) (hB : OneOk GatesD.sec l B) (y : S) {i : Nat} {g : GatesD} {a b : NsD} (hg : l[i]? = some g) (ha : A[i]? = some a) (hbb : B[i]? = some b) :
    ∀ w, w < g.vars.toNat → (runV (jp l y) (allNs A) (allNs B)).2[emb l i g w]? = (runV g a.ns b.ns).2[w]? := by
  have h := join_run hV hA hB y l.length (Nat.le_refl _) i g a b hg ha hbb
  rw [if_pos (List.getElem?_eq_some_iff.1 hg).1] at h
  exact h.v
theorem join_hold (hV : AllV l) {A B : List NsD} (hA : OneOk GatesD.pub l A) (hB : OneOk GatesD.sec l B) (y : S) :
    AllHold (jp l y) (runV (jp l y) (allNs A) (allNs B)).2 ↔ ∀ (i : Nat) (g : GatesD) (a b : NsD), l[i]? = some g → A[i]? = some a → B[i]? = some b → AllHold g (runV g a.ns b.ns).2 := by
  have hb := allV_base hV
  have key : ∀ (i : Nat) (g : GatesD) (a b : NsD), l[i]? = some g → A[i]? = some a → B[i]? = some b → ∀ k r h, g.rows[k]? = some r → (joinTo l l.length)[offI l i + k]? = some h →
      (HoldR (lastF l).toNat (joinTo l l.length) (offI l i + k) h (runV (jp l y) (allNs A) (allNs B)).2 ↔ HoldR g.field.toNat g.rows k r (runV g a.ns b.ns).2) := fun i g a b hg ha hbb k r h hr hh => by
    have v := iv_of hb hg
    have b1 := v.b.v0
    have b2 := v.b.p0
    have b3 := v.b.s0
    have hf := last_field hV hg
    have hrow := (hV i g hg).1.rows k (List.getElem?_eq_some_iff.1 hr).1
    rw [hf] at hrow ⊢
    exact hold_rel (n := g.vars.toNat) (f := emb l i g) (vars := g.vars) (by omega) hrow (join_mov hb hg) (join_vals hV hA hB y hg ha hbb) hr hh
  constructor
  · intro H i g a b hg ha hbb k r hr
    obtain ⟨h, hh, _⟩ := join_mov hb hg k r hr
    exact (key i g a b hg ha hbb k r h hr hh).1 (H _ h hh)
  · intro H q h hq
    obtain ⟨i, g, k, r, hg, hr, rfl⟩ := join_sur l.length (Nat.le_refl _) q (List.getElem?_eq_some_iff.1 hq).1
    have hi := (List.getElem?_eq_some_iff.1 hg).1
    have ha := List.getElem?_eq_getElem (show i < A.length by have := hA.1; omega)
    have hbb := List.getElem?_eq_getElem (show i < B.length by have := hB.1; omega)
    exact (key i g _ _ hg ha hbb k r h hr hq).2 (H i g _ _ hg ha hbb k r hr)
end Go.Proofs.YticfndhcbjcklaaDoor.Ev
namespace Go.Proofs.YticfndhcbjcklaaDoor.Ev
set_option linter.unusedSimpArgs false
set_option linter.unusedVariables false
variable {st s t : St} {n i id off : Nat}
/-! made -/
structure Two (s : St) (y1 y2 : S) (A B : List NsD) (a : Nat) : Prop where
  r1 : RepLs s y1 A
  r2 : RepLs s y2 B
  g1 : Grw a s y1 A.length 1
  g2 : Grw a s y2 B.length 1
  ne : ∀ id, sid y1 = some id → sid y2 ≠ some id
  el : ∀ e, e ∈ A ∨ e ∈ B → ∀ id, sid e.sl = some id → sid y1 ≠ some id ∧ sid y2 ≠ some id ∧ id < s.next
theorem Two.fr {y1 y2 : S} {A B : List NsD} {a : Nat} (h : Two s y1 y2 A B a) (k : Fr s t) : Two t y1 y2 A B a :=
  ⟨h.r1.fr k, h.r2.fr k, h.g1.fr k, h.g2.fr k, h.ne, fun e he id hid => by obtain ⟨a, b, c⟩ := h.el e he id hid; exact ⟨a, b, Nat.lt_of_lt_of_le c k.next⟩⟩
def OneTo (w : GatesD → Int) (l : List GatesD) (ls : List NsD) (i : Nat) : Prop := ls.length = i ∧ ∀ (j : Nat) (g : GatesD) (e : NsD), l[j]? = some g → ls[j]? = some e → RowOk w g e
theorem OneTo.snoc {w : GatesD → Int} {l : List GatesD} {ls : List NsD} {i : Nat} (h : OneTo w l ls i) {g : GatesD} {e : NsD} (hg : l[i]? = some g) (hr : RowOk w g e) : OneTo w l (ls ++ [e]) (i + 1) := by
  refine ⟨by rw [List.length_append, h.1]; rfl, fun j g' e' h1 h2 => ?_⟩
  rcases Nat.lt_or_ge j i with hj | hj
  · rw [List.getElem?_append_left (by rw [h.1]; exact hj)] at h2; exact h.2 j g' e' h1 h2
  · rw [List.getElem?_append_right (by rw [h.1]; exact hj), h.1] at h2
    have : j = i := by
      have := (List.getElem?_eq_some_iff.1 h2).1
      simp at this; omega
    subst this
    rw [Nat.sub_self] at h2
    simp at h2; subst h2
    rw [hg] at h1; cases h1; exact hr
theorem Sat.back {x y : S} {n m z : Nat} {cs cs' : List S} (hx : Sat st x n z cs) (k : Fr st t) (hy : Sat t y m z cs') (hs : sid y = none ∨ sid y = sid x) : Sat st y m z cs' := by
  obtain ⟨h1, h2 | ⟨id, off, c, b, rfl, h3, h4, h5⟩⟩ := hy
  · exact ⟨h1, .inl h2⟩
  · rcases hs with hs | hs
    · cases hs
    · obtain ⟨_, ⟨_, rfl | rfl⟩ | ⟨id', off', c', b', rfl, g3, g4, g5⟩⟩ := hx
      · cases hs
      · cases hs
      · have e : id = id' := Option.some.inj hs
        subst e
        have := k.old _ _ g4
        rw [h4] at this
        cases this
        exact ⟨h1, .inr ⟨id, off, c, b, rfl, h3, g4, h5⟩⟩
theorem made_ok (hg : Glo st) {x z : S} {l : List GatesD} {ns : List Nat} (hl : RepGs st x l) (h24 : l.length ≤ 24) (hb : ∀ g ∈ l, Base g) (hz : RepN st z ns) (hzl : ns.length < 9223372036854775808) :
    Ca (cF F) 19 [.sc x, .sc z] st (fun v s => Fr st s ∧ ∃ y1 y2 A B, v = .tup [(false, [y1]), (false, [y2])] ∧ RepLs s y1 A ∧ RepLs s y2 B ∧ OneOk GatesD.pub l A ∧ OneOk GatesD.sec l B) := by
  refine Ca.of (hf := cf19) rfl rfl [q0, q1] [.tmp q4, .tmp q5] rfl rfl rfl fun Q hQ => ?_
  have hw := hg.wf
  refine Ru.rs fun P hP => Rg.ret (hP _ _ ?_)
  clear hP P
  refine Ru.seq (Ru.rs fun P hP => Rg.ret (hP _ _ ?_))
  clear hP P
  refine Ru.at (fun ρ => ρ q0 = .sc x ∧ ρ q1 = .sc z ∧ ρ q4 = .sc .nils ∧ ρ q5 = .sc .nils ∧ ρ q6 = iv 0) ⟨rfl, rfl, rfl, rfl, rfl⟩ fun ρ0 hE => ?_
  obtain ⟨e0, e1, e4, e5, e6⟩ := hE
  refine Ru.block (Ru.lp [q0] (fun i : Nat => l.length - i) (fun i ρ s => i ≤ l.length ∧ ρ q6 = iv i ∧ Fr st s ∧ (∃ z', ρ q1 = .sc z' ∧ ∃ ns', RepN st z' ns' ∧ ns'.length < 9223372036854775808) ∧ ∃ y1, ρ q4 = .sc y1 ∧ ∃ y2, ρ q5 = .sc y2 ∧ ∃ A B, Two s y1 y2 A B st.next ∧ OneTo GatesD.pub l A i ∧ OneTo GatesD.sec l B i)
    ⟨0, Nat.zero_le _, e6, Fr.refl hw, ⟨z, e1, ns, hz, hzl⟩, .nils, e4, .nils, e5, [], [], ⟨⟨Sat.nil 1, fun g hg => (by cases hg)⟩, ⟨Sat.nil 1, fun g hg => (by cases hg)⟩, Grw.nil _ _, Grw.nil _ _, fun id h => (by cases h), fun e he => (by rcases he with h | h <;> cases h)⟩, ⟨rfl, fun j g e _ h => (by simp at h)⟩, ⟨rfl, fun j g e _ h => (by simp at h)⟩⟩ fun i ρ s hk hI => ?_)
  clear e1 e4 e5 e6
  obtain ⟨hi, e6, f, ⟨z1, e1, ns1, hz1, hzl1⟩, y1, e4, y2, e5, A, B, T, oA, oB⟩ := hI
  have hx := hl.fr f
  refine Ru.seq (Ru.rs fun P hP => ?_)
  simp -implicitDefEqProofs (disch := first | decide | omega) [hk.e, e0, e6, lnS_sat hx.sat]
  refine Rg.ret (hP _ _ ?_)
  clear hP P
  refine Ru.cond rfl (fun h => Ru.skip ?_) fun h => Ru.exit ?_
  rotate_left
  · simp at h
    have hin : i = l.length := by omega
    subst hin
    simp only [Then, Out, if_true]
    refine Ru.rs fun P hP => ?_
    simp -implicitDefEqProofs (disch := first | decide | omega) [e4, e5]
    exact Rg.ret (hP _ _ (Ru.ret (hQ _ _ (.two (a := y1) (b := y2) rfl rfl ⟨f, y1, y2, A, B, rfl, T.r1, T.r2, oA, oB⟩))))
  simp at h
  simp only [Then, Out]
  have hlt : i < l.length := by omega
  have hgi := List.getElem?_eq_getElem hlt
  have hmem := List.getElem_mem hlt
  generalize l[i] = g at hgi hmem
  obtain ⟨c1, c2, c3, c4, c5, c6, c7, c8, c9⟩ := hb g hmem
  have hpP := pC_pos g.field.toNat
  refine Ru.seq (Ru.block (Ru.rs fun P hP => Rg.ret (hP _ _ ?_)))
  clear hP P
  refine Ru.seq (Ru.rs fun P hP => Rg.ret (hP _ _ ?_))
  clear hP P
  refine Ru.at (fun ρ' => Keep [q0] ρ' ρ0 ∧ ρ' q6 = iv i ∧ ρ' q1 = .sc z1 ∧ ρ' q4 = .sc y1 ∧ ρ' q5 = .sc y2 ∧ ρ' q7 = .sc .nils ∧ ρ' q8 = .sc .nils ∧ ρ' q9 = iv 0) ⟨by repeat first | exact hk | refine Keep.up (by rfl) ?_, by simp (disch := first | decide | omega) [e6], by simp (disch := first | decide | omega) [e1], by simp (disch := first | decide | omega) [e4], by simp (disch := first | decide | omega) [e5], rfl, rfl, rfl⟩ fun ρ1 hE => ?_
  clear hk e6 e1 e4 e5 ρ
  obtain ⟨hk, e6, e1, e4, e5, e7, e8, e9⟩ := hE
  refine Ru.block (Ru.lp [q0, q6, q4, q5] (fun k : Nat => (g.pub + g.sec).toNat - k) (fun k ρ s' => k ≤ (g.pub + g.sec).toNat ∧ ρ q9 = iv k ∧ Fr s s' ∧ (∃ z', ρ q1 = .sc z' ∧ ∃ ns', RepN st z' ns' ∧ ns'.length < 9223372036854775808) ∧ ∃ p1, ρ q7 = .sc p1 ∧ ∃ p2, ρ q8 = .sc p2 ∧ ∃ L1 L2, RepN s' p1 L1 ∧ RepN s' p2 L2 ∧ Grw s.next s' p1 L1.length 1 ∧ Grw s.next s' p2 L2.length 1 ∧ (∀ id, sid p1 = some id → sid p2 ≠ some id) ∧ L1.length = min k g.pub.toNat ∧ L2.length = k - g.pub.toNat ∧ Below (pC g.field.toNat) L1 ∧ Below (pC g.field.toNat) L2)
    ⟨0, Nat.zero_le _, e9, Fr.refl f.wf, ⟨z1, e1, ns1, hz1, hzl1⟩, .nils, e7, .nils, e8, [], [], Sat.nil 1, Sat.nil 1, Grw.nil _ _, Grw.nil _ _, fun id h => (by cases h), by simp, by simp, fun x hx => (by cases hx), fun x hx => (by cases hx)⟩ fun k ρ s' hk2 hI => ?_)
  clear e1 e7 e8 e9 hz1 hzl1 z1 ns1
  obtain ⟨hkl, e9, f2, ⟨z1, e1, ns1, hz1, hzl1⟩, p1, e7, p2, e8, L1, L2, r1, r2, g1, g2, hne, l1, l2, w1, w2⟩ := hI
  have f3 := f.trans f2
  have hx3 := hl.fr f3
  obtain ⟨gid, go, hgx, hgc, _⟩ := elt (f := gC) (z := 5) (fun _ => rfl) hx3.sat hgi
  refine Ru.seq (Ru.ds fun P hP => ?_)
  simp -implicitDefEqProofs (disch := first | decide | omega) [hk2.e, hk.e, e0, e6, e9, hgx, hgc 2 _ rfl, hgc 3 _ rfl]
  refine Rg.ret (hP _ _ ?_)
  clear hP P
  refine Ru.cond rfl (fun h => Ru.skip ?_) fun h => Ru.exit ?_
  rotate_left
  · -- the two lists are appended
    simp at h
    obtain rfl : k = (g.pub + g.sec).toNat := by omega
    simp only [Then, Out, if_true]
    have T2 := T.fr f2
    have ln1 := T.g1.lt f.wf
    have ln2 := T.g2.lt f.wf
    have hp1 : ∀ id, sid p1 = some id → s.next ≤ id := g1.sid
    have hp2 : ∀ id, sid p2 = some id → s.next ≤ id := g2.sid
    have hq1 := g1.lt f3.wf
    have hq2 := g2.lt f3.wf
    have hfill1 : ∀ tm K, fillK tm K [(0, 1, .c (.sc p1))] [zn] = K [p1] := fun tm K => (fill_sc tm K _ 0 p1 [] (by simp)).trans (by rw [fill_nil]; rfl)
    have hfill2 : ∀ tm K, fillK tm K [(0, 1, .c (.sc p2))] [zn] = K [p2] := fun tm K => (fill_sc tm K _ 0 p2 [] (by simp)).trans (by rw [fill_nil]; rfl)
    have hAl := oA.1
    have hBl := oB.1
    obtain ⟨u1, t1, hA, x1, x2, x3, x4, x5⟩ := app_bld (b := 24) (k := 1) (nc := [p1]) f3.wf T2.r1.sat T2.g1 f3.next (by omega) rfl (by omega) (by omega)
    have m1 := f3.next
    have n12 : ∀ id, sid y1 = some id → sid y2 ≠ some id := T.ne
    have T2r2 : RepLs t1 y2 B := ⟨T2.r2.sat.keep x3 fun id h he => n12 id h he, fun e he => (T2.r2.ns e he).keep x3 fun id h hh => (T.el e (.inr he) id hh).1 h⟩
    have T2g2 : Grw st.next t1 y2 B.length 1 := T2.g2.keep x3 fun id h he => n12 id h he
    have f4 : Fr st t1 := x3.fr f3 (fun id h => by have := T2.g1.sid id h; omega) hw
    obtain ⟨u2, t2, hB, z1', z2', z3', z4', z5'⟩ := app_bld (b := 24) (k := 1) (nc := [p2]) f4.wf T2r2.sat T2g2 f4.next (by omega) rfl (by omega) (by omega)
    have f5 : Fr st t2 := z3'.fr f4 (fun id h => by have := T2g2.sid id h; omega) hw
    refine Ru.r1 fun P hP => ?_
    simp -implicitDefEqProofs (disch := first | decide | omega) [hk2.e, e4, e5, e7, e8, buildS_eq, hfill1, hfill2, hA, hB]
    refine Rg.ret (hP _ _ ?_)
    clear hP P hA hB
    simp only [Then, Out]
    have hkk : Keep [q0] ρ ρ0 := .via (by rfl) hk2 hk
    refine Ru.r1 fun P hP => ?_
    simp -implicitDefEqProofs (disch := first | decide | omega) [hk2.e, e6]
    refine Rg.ret (hP _ _ ⟨by repeat first | exact hkk | refine Keep.up (by rfl) ?_, i + 1, by omega, by omega, rfl, f5, ⟨z1, by simp (disch := first | decide | omega) [e1], ns1, hz1, hzl1⟩, u1, by simp (disch := first | decide | omega), u2, by simp (disch := first | decide | omega), A ++ [⟨L1, p1⟩], B ++ [⟨L2, p2⟩], ⟨?_, ?_, ?_, ?_, ?_, ?_⟩, oA.snoc hgi ⟨by show ((L1.length : Nat) : Int) = g.pub; omega, w1⟩, oB.snoc hgi ⟨by show ((L2.length : Nat) : Int) = g.sec; omega, w2⟩⟩)
    · refine ⟨?_, fun e he => ?_⟩
      · rw [List.length_append, List.map_append]
        exact x1.keep z3' fun id h he => by have := ln2 id h; have := Option.some.inj (x4.symm.trans he); have := f2.next; omega
      · rcases List.mem_append.1 he with he | he
        · exact ((T2.r1.ns e he).keep x3 fun id h hh => (T.el e (.inl he) id hh).1 h).keep z3' fun id h hh => (T.el e (.inl he) id hh).2.1 h
        · obtain rfl := List.mem_singleton.1 he
          exact (Sat.keep r1 x3 fun id h hh => by have := ln1 id h; have := hp1 id hh; omega).keep z3' fun id h hh => by have := ln2 id h; have := hp1 id hh; omega
    · refine ⟨by rw [List.length_append, List.map_append]; exact z1', fun e he => ?_⟩
      rcases List.mem_append.1 he with he | he
      · exact (T2r2.ns e he).keep z3' fun id h hh => (T.el e (.inr he) id hh).2.1 h
      · obtain rfl := List.mem_singleton.1 he
        exact (Sat.keep r2 x3 fun id h hh => by have := ln1 id h; have := hp2 id hh; omega).keep z3' fun id h hh => by have := ln2 id h; have := hp2 id hh; omega
    · rw [List.length_append]; exact x2.keep z3' fun id h he => by have := ln2 id h; have := Option.some.inj (x4.symm.trans he); have := f2.next; omega
    · rw [List.length_append]; exact z2'
    · intro id h h'
      have := Option.some.inj (x4.symm.trans h)
      have := Option.some.inj (z4'.symm.trans h')
      omega
    · intro e he id hid
      have hn : t2.next = s'.next + 4 := by omega
      have old : id < s'.next → (sid u1 ≠ some id ∧ sid u2 ≠ some id ∧ id < t2.next) := fun h => by
        exact ⟨fun hh => (by have := Option.some.inj (x4.symm.trans hh); omega), fun hh => (by have := Option.some.inj (z4'.symm.trans hh); omega), by omega⟩
      have mm := f2.next
      rcases he with he | he <;> rcases List.mem_append.1 he with he | he
      · exact old (by have := (T.el e (.inl he) id hid).2.2; omega)
      · obtain rfl := List.mem_singleton.1 he; exact old (hq1 id hid)
      · exact old (by have := (T.el e (.inr he) id hid).2.2; omega)
      · obtain rfl := List.mem_singleton.1 he; exact old (hq2 id hid)
  simp at h
  simp only [Then, Out]
  have hk3 : (k : Int) < g.pub + g.sec := h
  have tail : ∀ (ρ' : Ev) (t : St) (m0 : Nat) (z' : S), m0 < pC g.field.toNat → Keep [q0, q6, q4, q5] ρ' ρ1 → ρ' q9 = iv k → ρ' q10 = uv m0 → ρ' q1 = .sc z' → ρ' q7 = .sc p1 → ρ' q8 = .sc p2 → Fr s' t →
      ∀ Q' : X → Ev → St → Prop, (∀ ρ'' t' p1' p2' L1' L2', Keep [q0, q6, q4, q5] ρ'' ρ1 → ρ'' q9 = iv k → ρ'' q1 = .sc z' → Fr s t' → ρ'' q7 = .sc p1' → ρ'' q8 = .sc p2' → RepN t' p1' L1' → RepN t' p2' L2' → Grw s.next t' p1' L1'.length 1 → Grw s.next t' p2' L2'.length 1 → (∀ id, sid p1' = some id → sid p2' ≠ some id) →
        L1'.length = min (k + 1) g.pub.toNat → L2'.length = k + 1 - g.pub.toNat → Below (pC g.field.toNat) L1' → Below (pC g.field.toNat) L2' → Q' .normal ρ'' t') →
      Ru (cF F) (.seq (.reg [q52] fun c r s K => ixs n5 (r q0) (r q6) fun v0 => fad n2 v0 fun v1 => ld s v1 fun v2 => binK .lss (r q9) v2 fun v3 => K [v3] s)
 (.cond (.t q52) (.reg [q7] fun c r s K => h_op3_buildS n1 n1 [zu] [(n0, n1, (.c (r q10)))] c r s fun v0 s => xA n1 n8 (r q7) v0 c r s fun v1 s => K [v1] s)
 (.reg [q8] fun c r s K => h_op3_buildS n1 n1 [zu] [(n0, n1, (.c (r q10)))] c r s fun v0 s => xA n1 n8 (r q8) v0 c r s fun v1 s => K [v1] s))) ρ' t Q' := by
    intro ρ' t m0 z' hX hk2 e9 e10 e1 e7 e8 kt Q' hQ'
    have ft := f3.trans kt
    have fst := f2.trans kt
    have hc2 := kt.rd (hgc 2 _ rfl)
    have hfill : ∀ tm K, fillK tm K [(0, 1, .c (uv m0))] [us 0] = K [us m0] := fun tm K => (fill_sc tm K _ 0 (us m0) [] (by simp)).trans (by rw [fill_nil]; rfl)
    have b1 : ∀ x ∈ L1 ++ [m0], x < pC g.field.toNat := fun x hx => by
      rcases List.mem_append.1 hx with h | h
      · exact w1 x h
      · obtain rfl := List.mem_singleton.1 h; exact hX
    have b2 : ∀ x ∈ L2 ++ [m0], x < pC g.field.toNat := fun x hx => by
      rcases List.mem_append.1 hx with h | h
      · exact w2 x h
      · obtain rfl := List.mem_singleton.1 h; exact hX
    refine Ru.rs fun P hP => ?_
    simp -implicitDefEqProofs (disch := first | decide | omega) [hk2.e, hk.e, e0, e6, e9, hgx, hc2]
    refine Rg.ret (hP _ _ ?_)
    clear hP P
    refine Ru.cond rfl (fun h => ?_) fun h => ?_
    · simp at h
      obtain ⟨u1, t1, hA, x1, x2, x3, x4, x5⟩ := app_bld (b := 8) (k := 1) (nc := [us m0]) ft.wf (Sat.fr r1 kt) (g1.fr kt) fst.next (by omega) rfl (by omega) (by omega)
      refine Ru.r1 fun P hP => ?_
      simp -implicitDefEqProofs (disch := first | decide | omega) [e7, e10, buildS_eq, hfill, hA]
      have hlt2 := (g2.fr kt).lt ft.wf
      refine Rg.ret (hP _ _ (hQ' _ _ u1 p2 (L1 ++ [m0]) L2 (by repeat first | exact hk2 | refine Keep.up (by rfl) ?_) ?_ ?_ (x3.fr fst (fun id h => g1.sid id h) f.wf) ?_ ?_ ?_ ((Sat.fr r2 kt).keep x3 fun id h he => hne id h he) ?_ ((g2.fr kt).keep x3 fun id h he => hne id h he) ?_ ?_ ?_ b1 w2))
      · simp (disch := first | decide | omega) [e9]
      · simp (disch := first | decide | omega) [e1]
      · simp (disch := first | decide | omega)
      · simp (disch := first | decide | omega) [e8]
      · unfold RepN; rw [List.length_append, List.map_append]; exact x1
      · rw [List.length_append]; exact x2
      · intro id h h'
        have := Option.some.inj (x4.symm.trans h)
        have := hlt2 id h'; omega
      · simp; omega
      · omega
    · simp at h
      obtain ⟨u1, t1, hA, x1, x2, x3, x4, x5⟩ := app_bld (b := 8) (k := 1) (nc := [us m0]) ft.wf (Sat.fr r2 kt) (g2.fr kt) fst.next (by omega) rfl (by omega) (by omega)
      refine Ru.r1 fun P hP => ?_
      simp -implicitDefEqProofs (disch := first | decide | omega) [e8, e10, buildS_eq, hfill, hA]
      have hlt1 := (g1.fr kt).lt ft.wf
      refine Rg.ret (hP _ _ (hQ' _ _ p1 u1 L1 (L2 ++ [m0]) (by repeat first | exact hk2 | refine Keep.up (by rfl) ?_) ?_ ?_ (x3.fr fst (fun id h => g2.sid id h) f.wf) ?_ ?_ ((Sat.fr r1 kt).keep x3 fun id h he => hne id he h) ?_ ((g1.fr kt).keep x3 fun id h he => hne id he h) ?_ ?_ ?_ ?_ w1 b2))
      · simp (disch := first | decide | omega) [e9]
      · simp (disch := first | decide | omega) [e1]
      · simp (disch := first | decide | omega) [e7]
      · simp (disch := first | decide | omega)
      · unfold RepN; rw [List.length_append, List.map_append]; exact x1
      · rw [List.length_append]; exact x2
      · intro id h h'
        have := Option.some.inj (x4.symm.trans h')
        have := hlt1 id h; omega
      · omega
      · simp; omega
  have last : ∀ (z' : S) (ns' : List Nat), RepN st z' ns' → ns'.length < 9223372036854775808 → ∀ ρ'' t' p1' p2' L1' L2', Keep [q0, q6, q4, q5] ρ'' ρ1 → ρ'' q9 = iv k → ρ'' q1 = .sc z' → Fr s t' → ρ'' q7 = .sc p1' → ρ'' q8 = .sc p2' → RepN t' p1' L1' → RepN t' p2' L2' → Grw s.next t' p1' L1'.length 1 → Grw s.next t' p2' L2'.length 1 → (∀ id, sid p1' = some id → sid p2' ≠ some id) →
        L1'.length = min (k + 1) g.pub.toNat → L2'.length = k + 1 - g.pub.toNat → Below (pC g.field.toNat) L1' → Below (pC g.field.toNat) L2' →
      ∀ Q' : X → Ev → St → Prop, (∀ ρ'' s', (Keep [q0, q6, q4, q5] ρ'' ρ1 ∧ ∃ k', (g.pub + g.sec).toNat - k' < (g.pub + g.sec).toNat - k ∧ k' ≤ (g.pub + g.sec).toNat ∧ ρ'' q9 = iv k' ∧ Fr s s' ∧ (∃ z', ρ'' q1 = .sc z' ∧ ∃ ns', RepN st z' ns' ∧ ns'.length < 9223372036854775808) ∧ ∃ p1, ρ'' q7 = .sc p1 ∧ ∃ p2, ρ'' q8 = .sc p2 ∧ ∃ L1 L2, RepN s' p1 L1 ∧ RepN s' p2 L2 ∧ Grw s.next s' p1 L1.length 1 ∧ Grw s.next s' p2 L2.length 1 ∧ (∀ id, sid p1 = some id → sid p2 ≠ some id) ∧ L1.length = min k' g.pub.toNat ∧ L2.length = k' - g.pub.toNat ∧ Below (pC g.field.toNat) L1 ∧ Below (pC g.field.toNat) L2) → Q' .normal ρ'' s') →
      Ru (cF F) (.reg [q9] fun c r s K => binK .add (r q9) I1 fun v0 => K [v0] s) ρ'' t' Q' := by
    intro z' ns' hz' hzl' ρ'' t' p1' p2' L1' L2' a1 a2 a3 a4 a5 a6 a7 a8 a9 a10 a11 a12 a13 a14 a15 Q' hQ'
    refine Ru.r1 fun P hP => ?_
    simp -implicitDefEqProofs (disch := first | decide | omega) [a2]
    exact Rg.ret (hP _ _ (hQ' _ _ ⟨by repeat first | exact a1 | refine Keep.up (by rfl) ?_, k + 1, by omega, by omega, rfl, a4, ⟨z', by simp (disch := first | decide | omega) [a3], ns', hz', hzl'⟩, p1', by simp (disch := first | decide | omega) [a5], p2', by simp (disch := first | decide | omega) [a6], L1', L2', a7, a8, a9, a10, a11, a12, a13, a14, a15⟩))
  refine Ru.seq (Ru.block (Ru.rs fun P hP => Rg.ret (hP _ _ ?_)))
  clear hP P
  have hz3 := Sat.fr hz1 f3
  refine Ru.seq (Ru.rs fun P hP => ?_)
  simp -implicitDefEqProofs (disch := first | decide | omega) [e1, lnS_sat hz3]
  refine Rg.ret (hP _ _ ?_)
  clear hP P
  refine Ru.cond rfl (fun h => ?_) fun h => Ru.skip ?_
  · simp at h
    have hn0 : 0 < ns1.length := by omega
    have hgz := List.getElem?_eq_getElem hn0
    generalize ns1[0] = num at hgz
    obtain ⟨zid, zo, hzx, hzc, _⟩ := elt1 (f := us) hz3 hgz
    have hzx' : ∀ K, ixs 1 (.sc z1) (iv 0) K = K (.sc (.ptr zid zo)) := hzx
    refine Ru.d1 fun P hP => ?_
    have hg0 : rd s' gid go = some (is g.field) := hgc 0 _ rfl
    simp -implicitDefEqProofs (disch := first | decide | omega) [hk2.e, hk.e, e0, e6, e1, hgx, hg0, hzx', hzc]
    refine Rg.dc (fun v => v = uv (num % pC g.field.toNat)) f3.wf (by decide) (by decide) ((reduce_ok ((hg.fr f3).low _) c1 c2 num).imp fun v s h => h) fun v t kt hv => ?_
    subst hv
    obtain ⟨z2, hcut, hsd, hz2⟩ := sliceS_sat (show Sat t z1 ns1.length 1 (ns1.map us) from Sat.fr hz3 kt) (some 1) none (by simp; omega) (by simp)
    have hcut' : ∀ (c : CallK) (r : Ev) (K : V → St → R), h_op3_sliceS 1 (.c (.sc z1)) (some (.c (iv 1))) none none c r t K = K (.sc z2) t := hcut
    have hzb := Sat.back hz1 (f3.trans kt) hz2 hsd
    have hzb' : RepN st z2 (ns1.drop 1) := by
      unfold RepN
      have e1 : (ns1.drop 1).length = (none : Option Nat).getD ns1.length - (some 1 : Option Nat).getD 0 := by simp
      have e2 : ((ns1.map us).drop ((some 1 : Option Nat).getD 0 * 1)).take (((none : Option Nat).getD ns1.length - (some 1 : Option Nat).getD 0) * 1) = (ns1.drop 1).map us := by
        rw [List.map_drop]
        exact List.take_of_length_le (by simp)
      rw [e1, ← e2]; exact hzb
    simp -implicitDefEqProofs (disch := first | decide | omega) [e1, hcut']
    refine Rg.ret (hP _ _ ?_)
    clear hP P
    simp only [Then, Out]
    refine tail _ t (num % pC g.field.toNat) z2 (Nat.mod_lt _ hpP) ?_ ?_ ?_ ?_ ?_ ?_ kt _ fun ρ'' t' p1' p2' L1' L2' a1 a2 a3 a4 a5 a6 a7 a8 a9 a10 a11 a12 a13 a14 a15 => ?_
    · repeat first | exact hk2 | refine Keep.up (by rfl) ?_
    · simp (disch := first | decide | omega) [e9]
    · simp (disch := first | decide | omega)
    · simp (disch := first | decide | omega)
    · simp (disch := first | decide | omega) [e7]
    · simp (disch := first | decide | omega) [e8]
    · exact last z2 _ hzb' (by rw [List.length_drop]; omega) ρ'' t' p1' p2' L1' L2' a1 a2 a3 a4 a5 a6 a7 a8 a9 a10 a11 a12 a13 a14 a15 _ fun ρ s h => h
  · simp at h
    have hX0 : 0 < pC g.field.toNat := hpP
    refine tail _ s' 0 z1 hX0 ?_ ?_ ?_ ?_ ?_ ?_ (Fr.refl f3.wf) _ fun ρ'' t' p1' p2' L1' L2' a1 a2 a3 a4 a5 a6 a7 a8 a9 a10 a11 a12 a13 a14 a15 => ?_
    · repeat first | exact hk2 | refine Keep.up (by rfl) ?_
    · simp (disch := first | decide | omega) [e9]
    · simp (disch := first | decide | omega)
    · simp (disch := first | decide | omega) [e1]
    · simp (disch := first | decide | omega) [e7]
    · simp (disch := first | decide | omega) [e8]
    · exact last z1 ns1 hz1 hzl1 ρ'' t' p1' p2' L1' L2' a1 a2 a3 a4 a5 a6 a7 a8 a9 a10 a11 a12 a13 a14 a15 _ fun ρ s h => h
end Go.Proofs.YticfndhcbjcklaaDoor.Ev
