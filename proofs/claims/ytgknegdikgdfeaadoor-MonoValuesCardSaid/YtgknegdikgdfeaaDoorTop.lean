/- The law returns true, at every world in which the listed package variables hold what the program text lays; the card ties them to that text. -/
import Derived.Test.YtgknegdikgdfeaaDoorCards
import Derived.Test.YtgknegdikgdfeaaDoorTie
import Derived.WalkKit
import Derived.ProofKit
import Derived.OpenShut
import Derived.Deep.DeepHandedRow
import Derived.Deep.DeepWitnessRowRef
import Derived.Lib.LaidTab
import Derived.Test.YtgknegdikgdfeaaDoorEvC
import Derived.Test.YtgknegdikgdfeaaDoorMa
namespace Go.Proofs.YtgknegdikgdfeaaDoor.monoValues
open Go.ChangeShapes Go.WideShapes Go.ChangeAt Go.RowKit
set_option maxRecDepth 100000

theorem own : ownKnob Tryd.prog.godebug = none := by kernel_rfl
theorem order : Tryd.prog.follows .mixedOrders = true := by kernel_rfl
theorem globalsLt : ∀ n g', Tryd.prog.globalNamed n = some g' → g' < 4 := fun n g' h => by
  have h1 : Tryd.prog.globals.size = 4 := by kernel_rfl
  exact h1 ▸ Ev.globalNamed_lt h
theorem held0 : Ev.holdsAll (Ev.stOf Ev.l0 7).heap Ev.l0 = true := by kernel_rfl
theorem laidOut : laidOutB Tryd.prog = true := by kernel_rfl
theorem readable : ∀ t, t = 3 ∨ t = 22 ∨ t = 32 → Tryd.prog.readableRec t = true ∧ t < Tryd.prog.types.size := fun t h => by
  rcases h with rfl | rfl | rfl <;> exact ⟨by kernel_rfl, Nat.le_of_ble_eq_true (by kernel_rfl)⟩
/-- WHAT THE LAW COMES TO: true, and what was there is as it was. -/
theorem walk {H : Type} {enc : TypeId × Value → H} {W : World} (hL : laidMet Tryd.prog Rows.monoValuesRow.laid W) {n : Int} {a : Option Addr} {len cap : Nat} {cs : Array Value} {d1 d2 : DataW H} {p1 p2 : List MemPlace}
    (h1 : DataW.Trod enc Tryd.prog W 0 (fun _ => true) true 22 (.slice a len cap) d1 p1) (h2 : DataW.Trod enc Tryd.prog W 0 (fun _ => true) true 32 (.agg cs) d2 p2) :
    Calls Tryd.prog 5 #[.int .i64 n, .slice a len cap, .agg cs] W fun e w' => e = .returned (.bool true) ∧ Below W.heap.size W w' ∧ ∀ a, w'.frozen? a = W.frozen? a := by
  obtain ⟨σ0, hS0⟩ := Ev.stOf_seen hL globalsLt Ev.laid0
  obtain ⟨f1, g1⟩ := h1
  obtain ⟨f2, g2⟩ := h2
  obtain ⟨σ1, st1, l1, a1, hS1, le1, k1, q1, r1⟩ := Ev.rSum f1 _ _ g1 σ0 _ hS0
  obtain ⟨σ2, st2, l2, a2, hS2, le2, k2, q2, r2⟩ := Ev.rEnv f2 _ _ g2 σ1 _ hS1
  obtain ⟨s, rfl, hs, hmx⟩ := Ev.sum_of r1
  obtain ⟨e, L, rfl, hE⟩ := Ev.env_of r2
  have hlen : (a1.map Ev.toMon).length < 9223372036854775808 := by
    rw [List.length_map]
    exact Nat.lt_of_le_of_lt hmx (by decide)
  obtain ⟨k, hk⟩ := Ev.runs_open hS2.rel.wf (Ev.holdsAll_fr (k1.trans k2) held0) n (hs.fr k2) hlen hE
  refine Ev.open_lawO order Ev.F_ok Ev.list0 (by decide) Ev.known (Nat.le_of_ble_eq_true (by kernel_rfl)) hS2 ?_ hk
  refine .cons (.sc (.int _ _)) (.cons ?_ (.cons (.agg q2) .nil))
  cases q1 with
  | cons hq _ => exact .sc (hq.mono le2)

theorem contract (H : Type) (enc : TypeId × Value → H) (W : World) (base : Nat) (args : Array Value) (ds gs : List (DataW H)) (before : List MemPlace)
    (hval : ∀ (j : Nat) t v, Tryd.f5.params[j]? = some t → args[j]? = some v → Value.okWide Tryd.prog W .any base t v)
    (hW : DataW.Whole enc Tryd.prog Tryd.f5.params.toList Rows.monoValuesSpec.vars false W args.toList ds gs before) (hL : laidMetH Tryd.prog Rows.monoValuesRow.laid W) :
    Calls Tryd.prog 5 args W fun e W' => ∃ v, e = .returned v ∧ Rows.monoValuesSpec.post enc Tryd.prog Tryd.f5 false true false false W args v W' := by
  have hW' := hW
  obtain ⟨p, q, hA0, hV, rfl, hfz, hnd⟩ := hW
  have hA : DataW.TrodAll enc Tryd.prog W 0 (fun _ => true) true Tryd.f5.params.toList args.toList ds p := hA0
  rw [Tryd.params5] at hA hval
  obtain ⟨v0, vs0, d0, ds0, p0, q0, hargs0, rfl, rfl, h0, r0⟩ := trodAll_cons hA
  obtain ⟨v1, vs1, d1, ds1, p1, q1, hargs1, rfl, rfl, h1, r1⟩ := trodAll_cons r0
  obtain ⟨v2, vs2, d2, ds2, p2, q2, hargs2, rfl, rfl, h2, r2⟩ := trodAll_cons r1
  obtain ⟨e0, rfl, rfl⟩ := trodAll_nil r2
  have hargs : args.toList = [v0, v1, v2] := by
    rw [hargs0, hargs1, hargs2, e0]
  obtain rfl : args = #[v0, v1, v2] := by
    cases args; simp only at hargs; rw [hargs]
  obtain ⟨rfl, rfl⟩ := trodVars_none hV
  obtain ⟨n, rfl⟩ := okWide_int Tryd.underlying3 (hval 0 3 v0 rfl rfl)
  obtain ⟨a, len, cap, rfl⟩ := okWide_slice Tryd.underlying22 (hval 1 22 v1 rfl rfl)
  obtain ⟨cs, rfl, _⟩ := okWide_struct Tryd.underlying32 (hval 2 32 v2 rfl rfl)
  simp only [List.append_nil] at hW'
  refine (walk hL h1 h2).mono fun e W' ⟨he, hb, hf⟩ => ?_
  subst he
  have hlt : ∀ x ∈ p0 ++ (p1 ++ p2), x.block < W.heap.size := fun x hx => by simpa using hW'.lt x hx
  have t0 := Below.trod laidOut (readable 3 (.inl rfl)).1 (readable 3 (.inl rfl)).2 h0 hb (fun x hx => hlt x (by simp [hx]))
  have t1 := Below.trod laidOut (readable 22 (.inr (.inl rfl))).1 (readable 22 (.inr (.inl rfl))).2 h1 hb (fun x hx => hlt x (by simp [hx]))
  have t2 := Below.trod laidOut (readable 32 (.inr (.inr rfl))).1 (readable 32 (.inr (.inr rfl))).2 h2 hb (fun x hx => hlt x (by simp [hx]))
  exact ⟨_, rfl, _, _, _, [], p0 ++ (p1 ++ p2), [], hW', trodAll_cons_mk (shut_bool Tryd.underlying4 _) trodAll_mk0, trodAll_mk3 t0 t1 t2, rfl, hb.frame _, fun h => by cases h⟩

noncomputable def laidWorld (os : Os) : World := Ev.laidWorld Tryd.prog os Rows.monoValuesRow.laid 9
abbrev wit : Array Value := #[.int .i64 0, .slice none 0 0, .agg #[.slice none 0 0, .slice none 0 0, .slice none 0 0, .slice none 0 0, .slice none 0 0, .slice none 0 0, .slice none 0 0]]
theorem laid_met (os : Os) : laidMet Tryd.prog Rows.monoValuesRow.laid ((laidWorld os).forCall (fun _ _ => 0) ⟨#[], wit, []⟩).memory :=
  laidMet_of_run' 8 (by kernel_rfl) (by kernel_rfl)
theorem reads (os : Os) {H : Type} (enc : TypeId × Value → H) : ∃ places, DataW.whole enc Tryd.prog ((laidWorld os).forCall (fun _ _ => 0) ⟨#[], wit, []⟩).memory Tryd.f5.params.toList Rows.monoValuesSpec.vars false (wit : Array Value).toList 8 = some ([.lit (.int .i64 0), .nil, .agg [.nil, .nil, .nil, .nil, .nil, .nil, .nil]], [], places) :=
  ⟨[], by kernel_rfl⟩

set_option maxRecDepth 100000 in
theorem lifted (os : Os) (started : os.Started) (H : Type) (enc : TypeId × Value → H) (F : Stop.Interp) :
    ReturnsInHanded {} Tryd.checked os 5 .any ((OpenSpec.ofChange Rows.monoValuesSpec).preRow enc Tryd.prog Tryd.f5 Rows.monoValuesRow.domain false Rows.monoValuesRow.laid) (((OpenSpec.ofChange Rows.monoValuesSpec).at F).post enc Tryd.prog Tryd.f5 false true false false) := by
  obtain ⟨places, hx⟩ := reads os enc
  refine returnsInHanded_of_row (C := Tryd.checked) (s := OpenSpec.ofChange Rows.monoValuesSpec) own started (by kernel_rfl) Tryd.func5
    (witness_row_atRef (enc := enc) (C := Tryd.checked) false (laidWorld os) wit rfl (by kernel_rfl) (by kernel_rfl) (by kernel_rfl)
      (OpenSpec.preRow_of_cond 8 hx (by kernel_rfl) (fun k hk => by cases hk) (by kernel_rfl) (laid_met os))) ?_
  intro W base args ds gs before hval hW _ _ _ hL _ _
  exact contract H enc W base args ds gs before hval hW hL

theorem said : Rows.MonoValuesSaid :=
  OpenClaim.holds_of_cond 5 Tryd.f5 rfl rfl rfl rfl rfl rfl rfl ⟨rfl, rfl, rfl, rfl, rfl⟩ rfl rfl rfl rfl rfl (by kernel_rfl) Tryd.func5 (by kernel_rfl)
    (of_decide_eq_true (by kernel_rfl)) (by unfold Func.isWrapper; first | (rw [if_pos (by decide +kernel)]; kernel_rfl) | (rw [if_neg (by decide +kernel)]; exact ⟨rfl, rfl⟩))
    (fun os started H enc _ F => by rw [OpenClaim.pre_eq_preRow]; exact lifted os started H enc F)

theorem plain (f : FuncId) (fn : Func) (hf : Tryd.pinned.checked.prog.funcNamed "attestor/attestorlaw12.MonoValues" = some f) (hfn : Tryd.pinned.checked.prog.funcs[f]? = some fn) :
    false = Tryd.pinned.checked.prog.looks [] ∧ ∀ (j : Nat) t, fn.params[j]? = some t → Tryd.pinned.checked.prog.wantsStandIn t = false := by
  obtain rfl : f = 5 := Option.some.inj ((show Tryd.prog.funcNamed "attestor/attestorlaw12.MonoValues" = some 5 by kernel_rfl).symm.trans hf) |>.symm
  obtain rfl : fn = Tryd.f5 := (Option.some.inj (Tryd.func5.symm.trans hfn)).symm
  refine ⟨by kernel_rfl, fun j t ht => ?_⟩
  rw [Tryd.params5] at ht
  have h1 : (#[3, 22, 32] : Array TypeId).toList.all (fun t => !Tryd.prog.wantsStandIn t) = true := by kernel_rfl
  have h2 := List.all_eq_true.1 h1 t (Array.mem_toList_iff.2 (Array.mem_of_getElem? ht))
  exact (show Tryd.prog.wantsStandIn t = false by simpa using h2)

/-- ████ THE CARD ████ -/
theorem card : Rows.MonoValuesCardSaid :=
  Claim7.holds_tied_plain_at .later [] _ _ _ _ said (fun _ h => by cases h) (by kernel_rfl) (fun _ h => by cases h) monoValues_row_tie rfl ⟨rfl, rfl⟩ (by kernel_rfl) rfl plain (by kernel_rfl)
end Go.Proofs.YtgknegdikgdfeaaDoor.monoValues
