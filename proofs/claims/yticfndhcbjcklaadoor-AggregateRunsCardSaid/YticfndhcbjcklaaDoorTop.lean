/- The law returns true, at every world in which the listed package variables hold what the program text lays; the card ties them to that text. -/
import Derived.Test.YticfndhcbjcklaaDoorCards
import Derived.Test.YticfndhcbjcklaaDoorTie
import Derived.WalkKit
import Derived.ProofKit
import Derived.OpenShut
import Derived.Deep.DeepHandedRow
import Derived.Deep.DeepWitnessRowRef
import Derived.Lib.LaidTab
import Derived.Test.YticfndhcbjcklaaDoorEvC
import Derived.Test.YticfndhcbjcklaaDoorMc
namespace Go.Proofs.YticfndhcbjcklaaDoor.aggregateRuns
open Go.ChangeShapes Go.WideShapes Go.ChangeAt Go.RowKit
set_option maxRecDepth 100000

theorem own : ownKnob Tryd.prog.godebug = none := by kernel_rfl
theorem order : Tryd.prog.follows .mixedOrders = true := by kernel_rfl
theorem globalsLt : ∀ n g', Tryd.prog.globalNamed n = some g' → g' < 1 := fun n g' h => by
  have h1 : Tryd.prog.globals.size = 1 := by kernel_rfl
  exact h1 ▸ Ev.globalNamed_lt h
theorem held0 : Ev.holdsAll (Ev.stOf Ev.l0 4).heap Ev.l0 = true := by kernel_rfl
theorem laidOut : laidOutB Tryd.prog = true := by kernel_rfl
theorem readable22 : Tryd.prog.readableRec 22 = true ∧ 22 < Tryd.prog.types.size := ⟨by kernel_rfl, Nat.le_of_ble_eq_true (by kernel_rfl)⟩
theorem readable26 : Tryd.prog.readableRec 26 = true ∧ 26 < Tryd.prog.types.size := ⟨by kernel_rfl, Nat.le_of_ble_eq_true (by kernel_rfl)⟩
/-- WHAT THE LAW COMES TO: true, and what was there is as it was. -/
theorem walk {H : Type} {enc : TypeId × Value → H} {W : World} (hL : laidMet Tryd.prog Rows.aggregateRunsRow.laid W) {a0 : Option Addr} {len0 cap0 : Nat} {a1 : Option Addr} {len1 cap1 : Nat} {d0 d1 : DataW H} {p0 p1 : List MemPlace}
    (h0 : DataW.Trod enc Tryd.prog W 0 (fun _ => true) true 22 (.slice a0 len0 cap0) d0 p0)
    (h1 : DataW.Trod enc Tryd.prog W 0 (fun _ => true) true 26 (.slice a1 len1 cap1) d1 p1) :
    Calls Tryd.prog 5 #[.slice a0 len0 cap0, .slice a1 len1 cap1] W fun e w' => e = .returned (.bool true) ∧ Below W.heap.size W w' ∧ ∀ a, w'.frozen? a = W.frozen? a := by
  obtain ⟨σ, hS⟩ := Ev.stOf_seen hL globalsLt Ev.laid0
  obtain ⟨f0, g0⟩ := h0
  obtain ⟨f1, g1⟩ := h1
  obtain ⟨σ0, st0, l0, y0, hS0, le0, k0, q0, r0⟩ := Ev.rdr_ty 9 22 _ Ev.ty22 f0 _ _ g0 σ _ hS
  obtain ⟨σ1, st1, l1, y1, hS1, le1, k1, q1, r1⟩ := Ev.rdr_ty 9 26 _ Ev.ty26 f1 _ _ g1 σ0 _ hS0
  obtain ⟨x, L, rfl, hx, e1, e2⟩ := Ev.gs_of r0
  obtain ⟨z, ns, rfl, hz, e3⟩ := Ev.ns_of r1
  obtain ⟨k, hk⟩ := Ev.aruns_open hS1.rel.wf (Ev.holdsAll_fr (k0.trans k1) held0) (hx.fr k1) hz e1 e2 e3
  refine Ev.open_lawO order Ev.F_ok Ev.list0 (by decide) Ev.known (Nat.le_of_ble_eq_true (by kernel_rfl)) hS1 ?_ hk
  exact .cons (Ev.RelV.sc ((Ev.all2_one q0).mono le1)) (.cons (Ev.RelV.sc (Ev.all2_one q1)) .nil)

theorem contract (H : Type) (enc : TypeId × Value → H) (W : World) (base : Nat) (args : Array Value) (ds gs : List (DataW H)) (before : List MemPlace)
    (hval : ∀ (j : Nat) t v, Tryd.f5.params[j]? = some t → args[j]? = some v → Value.okWide Tryd.prog W .any base t v)
    (hW : DataW.Whole enc Tryd.prog Tryd.f5.params.toList Rows.aggregateRunsSpec.vars false W args.toList ds gs before) (hL : laidMetH Tryd.prog Rows.aggregateRunsRow.laid W) :
    Calls Tryd.prog 5 args W fun e W' => ∃ v, e = .returned v ∧ Rows.aggregateRunsSpec.post enc Tryd.prog Tryd.f5 false true false false W args v W' := by
  have hW' := hW
  obtain ⟨p, q, hA0, hV, rfl, hfz, hnd⟩ := hW
  have hA : DataW.TrodAll enc Tryd.prog W 0 (fun _ => true) true Tryd.f5.params.toList args.toList ds p := hA0
  rw [Tryd.params5] at hA hval
  obtain ⟨v0, vs0, d0, ds0, p0, q0, hargs0, rfl, rfl, h0, r0⟩ := trodAll_cons hA
  obtain ⟨v1, vs1, d1, ds1, p1, q1, hargs1, rfl, rfl, h1, r1⟩ := trodAll_cons r0
  obtain ⟨e0, rfl, rfl⟩ := trodAll_nil r1
  have hargs : args.toList = [v0, v1] := by
    rw [hargs0, hargs1, e0]
  obtain rfl : args = #[v0, v1] := by
    cases args; simp only at hargs; rw [hargs]
  obtain ⟨rfl, rfl⟩ := trodVars_none hV
  obtain ⟨a0, len0, cap0, rfl⟩ := okWide_slice Tryd.underlying22 (hval 0 22 v0 rfl rfl)
  obtain ⟨a1, len1, cap1, rfl⟩ := okWide_slice Tryd.underlying26 (hval 1 26 v1 rfl rfl)
  simp only [List.append_nil] at hW'
  refine (walk hL h0 h1).mono fun e W' ⟨he, hb, hf⟩ => ?_
  subst he
  have hlt : ∀ x ∈ p0 ++ p1, x.block < W.heap.size := fun x hx => by simpa using hW'.lt x hx
  have t0 := Below.trod laidOut readable22.1 readable22.2 h0 hb (fun x hx => hlt x (by simp [hx]))
  have t1 := Below.trod laidOut readable26.1 readable26.2 h1 hb (fun x hx => hlt x (by simp [hx]))
  exact ⟨_, rfl, _, _, _, [], p0 ++ p1, [], hW', trodAll_cons_mk (shut_bool Tryd.underlying4 _) trodAll_mk0, trodAll_mk2 t0 t1, rfl, hb.frame _, fun h => by cases h⟩

noncomputable def laidWorld (os : Os) : World := Ev.laidWorld Tryd.prog os Rows.aggregateRunsRow.laid 6
abbrev wit : Array Value := #[.slice none 0 0, .slice none 0 0]
theorem laid_met (os : Os) : laidMet Tryd.prog Rows.aggregateRunsRow.laid ((laidWorld os).forCall (fun _ _ => 0) ⟨#[], wit, []⟩).memory :=
  laidMet_of_run' 8 (by kernel_rfl) (by kernel_rfl)
theorem reads (os : Os) {H : Type} (enc : TypeId × Value → H) : ∃ places, DataW.whole enc Tryd.prog ((laidWorld os).forCall (fun _ _ => 0) ⟨#[], wit, []⟩).memory Tryd.f5.params.toList Rows.aggregateRunsSpec.vars false (wit : Array Value).toList 8 = some ([.nil, .nil], [], places) :=
  ⟨[], by kernel_rfl⟩

set_option maxRecDepth 100000 in
theorem lifted (os : Os) (started : os.Started) (H : Type) (enc : TypeId × Value → H) (F : Stop.Interp) :
    ReturnsInHanded {} Tryd.checked os 5 .any ((OpenSpec.ofChange Rows.aggregateRunsSpec).preRow enc Tryd.prog Tryd.f5 Rows.aggregateRunsRow.domain false Rows.aggregateRunsRow.laid) (((OpenSpec.ofChange Rows.aggregateRunsSpec).at F).post enc Tryd.prog Tryd.f5 false true false false) := by
  obtain ⟨places, hx⟩ := reads os enc
  refine returnsInHanded_of_row (C := Tryd.checked) (s := OpenSpec.ofChange Rows.aggregateRunsSpec) own started (by kernel_rfl) Tryd.func5
    (witness_row_atRef (enc := enc) (C := Tryd.checked) false (laidWorld os) wit rfl (by kernel_rfl) (by kernel_rfl) (by kernel_rfl)
      (OpenSpec.preRow_of_cond 8 hx (by kernel_rfl) (fun k hk => by cases hk) (by kernel_rfl) (laid_met os))) ?_
  intro W base args ds gs before hval hW _ _ _ hL _ _
  exact contract H enc W base args ds gs before hval hW hL

theorem said : Rows.AggregateRunsSaid :=
  OpenClaim.holds_of_cond 5 Tryd.f5 rfl rfl rfl rfl rfl rfl rfl ⟨rfl, rfl, rfl, rfl, rfl⟩ rfl rfl rfl rfl rfl (by kernel_rfl) Tryd.func5 (by kernel_rfl)
    (of_decide_eq_true (by kernel_rfl)) (by unfold Func.isWrapper; first | (rw [if_pos (by decide +kernel)]; kernel_rfl) | (rw [if_neg (by decide +kernel)]; exact ⟨rfl, rfl⟩))
    (fun os started H enc _ F => by rw [OpenClaim.pre_eq_preRow]; exact lifted os started H enc F)

theorem plain (f : FuncId) (fn : Func) (hf : Tryd.pinned.checked.prog.funcNamed "attestor/attestorlaw32.AggregateRuns" = some f) (hfn : Tryd.pinned.checked.prog.funcs[f]? = some fn) :
    false = Tryd.pinned.checked.prog.looks [] ∧ ∀ (j : Nat) t, fn.params[j]? = some t → Tryd.pinned.checked.prog.wantsStandIn t = false := by
  obtain rfl : f = 5 := Option.some.inj ((show Tryd.prog.funcNamed "attestor/attestorlaw32.AggregateRuns" = some 5 by kernel_rfl).symm.trans hf) |>.symm
  obtain rfl : fn = Tryd.f5 := (Option.some.inj (Tryd.func5.symm.trans hfn)).symm
  refine ⟨by kernel_rfl, fun j t ht => ?_⟩
  rw [Tryd.params5] at ht
  have h1 : (#[22, 26] : Array TypeId).toList.all (fun t => !Tryd.prog.wantsStandIn t) = true := by kernel_rfl
  have h2 := List.all_eq_true.1 h1 t (Array.mem_toList_iff.2 (Array.mem_of_getElem? ht))
  exact (show Tryd.prog.wantsStandIn t = false by simpa using h2)

/-- ████ THE CARD ████ -/
theorem card : Rows.AggregateRunsCardSaid :=
  Claim7.holds_tied_plain_at .later [] _ _ _ _ said (fun _ h => by cases h) (by kernel_rfl) (fun _ h => by cases h) aggregateRuns_row_tie rfl ⟨rfl, rfl⟩ (by kernel_rfl) rfl plain (by kernel_rfl)
end Go.Proofs.YticfndhcbjcklaaDoor.aggregateRuns
