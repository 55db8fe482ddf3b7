/- Compiled functions of the translated program, and that each is what the compiler makes of it; no conditions. -/
import Derived.Test.YtffaehgicojjmaaDoorEvC
import Derived.KernelRfl
namespace Go.Proofs.YtffaehgicojjmaaDoor.Ev
set_option maxRecDepth 100000
set_option linter.unusedVariables false
noncomputable def r56x0 : RF := fun call ρ st K => K [(.sc .nils)] st
theorem h56x0 : RegOk [⟨(some (.r p1)), none, (.move (.c (.sc .nils)))⟩] [(.r p1)] r56x0 := by
  intro call ρ st K
  kernel_rfl
noncomputable def r56x1 : RF := fun call ρ st K => call (nat_lit 80) [(ρ p0)] st (fun v0 st => K [v0] st)
theorem h56x1 : RegOk [⟨(some (.l (.l p1))), none, (.move (.t p0))⟩, ⟨(some (.r (.l p1))), none, (.call (nat_lit 80) [(.t (.l (.l p1)))])⟩, ⟨(some (.l p2)), none, (.move (.t (.r (.l p1))))⟩] [(.l p2)] r56x1 := by
  intro call ρ st K
  kernel_rfl
noncomputable def r56x2 : RF := fun call ρ st K => lnS (ρ (.l p2)) (fun v => (fun v0 st => K [v0, (i6 0)] st) v st)
theorem h56x2 : RegOk [⟨(some (.l (.r p1))), none, (.move (.t (.l p2)))⟩, ⟨(some (.r (.r p1))), none, (.more (.len (.t (.l (.r p1)))))⟩, ⟨(some (.l (.l p2))), none, (.move (.c (.sc (.int .i64 (.ofNat (nat_lit 0))))))⟩] [(.r (.r p1)), (.l (.l p2))] r56x2 := by
  intro call ρ st K
  kernel_rfl
noncomputable def r56x3 : RF := fun call ρ st K => binK .lss (ρ (.l (.l p2))) (ρ (.r (.r p1))) (fun v => (fun v0 st => K [v0] st) v st)
theorem h56x3 : RegOk [⟨(some (.r (.l p2))), none, (.bin .lss (.t (.l (.l p2))) (.t (.r (.r p1))))⟩] [(.r (.l p2))] r56x3 := by
  intro call ρ st K
  kernel_rfl
noncomputable def r56x4 : RF := fun call ρ st K => K [(ρ (.l (.l p2)))] st
theorem h56x4 : RegOk [⟨(some (.l (.r p2))), none, (.move (.t (.l (.l p2))))⟩, ⟨(some (.r p2)), none, (.move (.t (.l (.r p2))))⟩] [(.r p2)] r56x4 := by
  intro call ρ st K
  kernel_rfl
noncomputable def r56x5 : RF := fun call ρ st K => ixs (nat_lit 2) (ρ (.l p2)) (ρ (.r p2)) (fun v => (fun v0 st => fad (nat_lit 0) v0 (fun v => (fun v1 st => ld1 st v1 (fun v => (fun v2 st => call (nat_lit 81) [(i6 3), v2, (ρ p1)] st (fun v3 st => ixs (nat_lit 2) (ρ (.l p2)) (ρ (.r p2)) (fun v => (fun v4 st => fad (nat_lit 0) v4 (fun v => (fun v5 st => sto st (nat_lit 1) v5 v3 ((fun _ st => K [] st) undefV)) v st)) v st))) v st)) v st)) v st)
theorem h56x5 : RegOk [⟨(some (.r (.r p2))), none, (.move (.t (.l p2)))⟩, ⟨(some (.l (.l (.l p1)))), none, (.move (.t (.r p2)))⟩, ⟨(some (.r (.l (.l p1)))), none, (.move (.t (.l p2)))⟩, ⟨(some (.l (.r (.l p1)))), none, (.move (.t (.r p2)))⟩, ⟨(some (.r (.r (.l p1)))), none, (.idxS (nat_lit 2) (.t (.r (.l (.l p1)))) (.t (.l (.r (.l p1)))))⟩, ⟨(some (.l (.l (.r p1)))), none, (.fa (nat_lit 0) (.t (.r (.r (.l p1)))))⟩, ⟨(some (.r (.l (.r p1)))), none, (.load1 (.t (.l (.l (.r p1)))))⟩, ⟨(some (.l (.r (.r p1)))), none, (.move (.t p1))⟩, ⟨(some (.r (.r (.r p1)))), none, (.call (nat_lit 81) [(.c (.sc (.int .i64 (.ofNat (nat_lit 3))))), (.t (.r (.l (.r p1)))), (.t (.l (.r (.r p1))))])⟩, ⟨(some (.l (.l (.l p2)))), none, (.idxS (nat_lit 2) (.t (.r (.r p2))) (.t (.l (.l (.l p1)))))⟩, ⟨(some (.r (.l (.l p2)))), none, (.fa (nat_lit 0) (.t (.l (.l (.l p2)))))⟩, ⟨none, none, (.more (.store (nat_lit 1) (.t (.r (.l (.l p2)))) (.t (.r (.r (.r p1))))))⟩] [] r56x5 := by
  intro call ρ st K
  kernel_rfl
noncomputable def r56x6 : RF := fun call ρ st K => binK .add (ρ (.l (.l p2))) (i6 1) (fun v => (fun v0 st => K [v0] st) v st)
theorem h56x6 : RegOk [⟨(some (.l (.r (.l p2)))), none, (.bin .add (.t (.l (.l p2))) (.c (.sc (.int .i64 (.ofNat (nat_lit 1))))))⟩, ⟨(some (.l (.l p2))), none, (.move (.t (.l (.r (.l p2)))))⟩] [(.l (.l p2))] r56x6 := by
  intro call ρ st K
  kernel_rfl
noncomputable def r56x7 : RF := fun call ρ st K => K [(ρ (.l p2))] st
theorem h56x7 : RegOk [⟨(some (.r (.r (.l p2)))), none, (.move (.t (.l p2)))⟩, ⟨(some (.r p1)), none, (.move (.t (.r (.r (.l p2)))))⟩] [(.r p1)] r56x7 := by
  intro call ρ st K
  kernel_rfl
/- (attestor/trace.sum).by -/
noncomputable def cf56 : HF := ⟨(.seq (.reg _ _ _ h56x0)
 (.seq (.reg _ _ _ h56x1)
 (.seq (.seq (.reg _ _ _ h56x2)
 (.block (nat_lit 0) (.loop (.seq (.reg _ _ _ h56x3)
 (.seq (.cond (.t (.r (.l p2))) .skip
 (.exit (nat_lit 0)))
 (.seq (.block (nat_lit 1) (.seq (.reg _ _ _ h56x4)
 (.reg _ _ _ h56x5)))
 (.reg _ _ _ h56x6)))))))
 (.seq (.reg _ _ _ h56x7)
 .ret)))), [(.tmp (.r p1))], [p0, p1], [(.l (.l p1)), (.r (.l p1)), (.l (.r p1)), (.l (.r p2)), (.r (.r p2)), (.l (.l (.l p1))), (.r (.l (.l p1))), (.l (.r (.l p1))), (.r (.r (.l p1))), (.l (.l (.r p1))), (.r (.l (.r p1))), (.l (.r (.r p1))), (.r (.r (.r p1))), (.l (.l (.l p2))), (.r (.l (.l p2))), (.l (.r (.l p2))), (.r (.r (.l p2)))]⟩
noncomputable def r80x0 : RF := fun call ρ st K => K [(.sc .nils)] st
theorem h80x0 : RegOk [⟨(some p2), none, (.move (.c (.sc .nils)))⟩] [p2] r80x0 := by
  intro call ρ st K
  kernel_rfl
noncomputable def r80x1 : RF := fun call ρ st K => h_op4_eqv .slice false (.c (ρ p0)) (.c (.sc .nils)) call ρ st (fun v0 st => K [v0] st)
theorem h80x1 : RegOk [⟨(some (.l p1)), none, (.move (.t p0))⟩, ⟨(some (.r p1)), none, (.more (.more (.more (.eqv .slice false (.t (.l p1)) (.c (.sc .nils))))))⟩] [(.r p1)] r80x1 := by
  intro call ρ st K
  kernel_rfl
noncomputable def r80x2 : RF := fun call ρ st K => K [(.sc .nils)] st
theorem h80x2 : RegOk [⟨(some p2), none, (.move (.c (.sc .nils)))⟩] [p2] r80x2 := by
  intro call ρ st K
  kernel_rfl
noncomputable def r80x3 : RF := fun call ρ st K => h_op3_buildS (nat_lit 0) (nat_lit 2) [] [] call ρ st (fun v0 st => h_op3_append (nat_lit 2) (nat_lit 32) (.c v0) (.c (ρ p0)) call ρ st (fun v1 st => K [v1] st))
theorem h80x3 : RegOk [⟨(some (.l p2)), none, (.more (.more (.buildS (nat_lit 0) (nat_lit 2) [] [])))⟩, ⟨(some (.r p2)), none, (.move (.t p0))⟩, ⟨(some (.l (.l p1))), none, (.more (.more (.append (nat_lit 2) (nat_lit 32) (.t (.l p2)) (.t (.r p2)))))⟩, ⟨(some p2), none, (.move (.t (.l (.l p1))))⟩] [p2] r80x3 := by
  intro call ρ st K
  kernel_rfl
/- slices.Clone[attestor/trace.sum,attestor/api.Mono] -/
noncomputable def cf80 : HF := ⟨(.seq (.reg _ _ _ h80x0)
 (.seq (.seq (.reg _ _ _ h80x1)
 (.cond (.t (.r p1)) (.seq (.reg _ _ _ h80x2)
 .ret)
 .skip))
 (.seq (.reg _ _ _ h80x3)
 .ret))), [(.tmp p2)], [p0], [(.l p1), (.l p2), (.r p2), (.l (.l p1))]⟩
noncomputable def r61x0 : RF := fun call ρ st K => K [(.sc .nils)] st
theorem h61x0 : RegOk [⟨(some (.r p1)), none, (.move (.c (.sc .nils)))⟩] [(.r p1)] r61x0 := by
  intro call ρ st K
  kernel_rfl
noncomputable def r61x1 : RF := fun call ρ st K => call (nat_lit 38) [(ρ p0)] st (fun v0 st => call (nat_lit 38) [(ρ p1)] st (fun v1 st => call (nat_lit 56) [v1, (u6 16)] st (fun v2 st => h_op3_buildS (nat_lit 2) (nat_lit 1) [.nils, .nils] [((nat_lit 0), (nat_lit 1), (.c v0)), ((nat_lit 1), (nat_lit 1), (.c v2))] call ρ st (fun v3 st => call (nat_lit 55) [v3] st (fun v4 st => K [v4] st)))))
theorem h61x1 : RegOk [⟨(some (.l p2)), none, (.move (.t p0))⟩, ⟨(some (.r p2)), none, (.call (nat_lit 38) [(.t (.l p2))])⟩, ⟨(some (.l (.l p1))), none, (.move (.t p1))⟩, ⟨(some (.r (.l p1))), none, (.call (nat_lit 38) [(.t (.l (.l p1)))])⟩, ⟨(some (.l (.r p1))), none, (.call (nat_lit 56) [(.t (.r (.l p1))), (.c (.sc (.int .u64 (.ofNat (nat_lit 16)))))])⟩, ⟨(some (.r (.r p1))), none, (.more (.more (.buildS (nat_lit 2) (nat_lit 1) [.nils, .nils] [((nat_lit 0), (nat_lit 1), (.t (.r p2))), ((nat_lit 1), (nat_lit 1), (.t (.l (.r p1))))])))⟩, ⟨(some (.l (.l p2))), none, (.call (nat_lit 55) [(.t (.r (.r p1)))])⟩, ⟨(some (.r p1)), none, (.move (.t (.l (.l p2))))⟩] [(.r p1)] r61x1 := by
  intro call ρ st K
  kernel_rfl
/- attestor/trace.whole -/
noncomputable def cf61 : HF := ⟨(.seq (.reg _ _ _ h61x0)
 (.seq (.reg _ _ _ h61x1)
 .ret)), [(.tmp (.r p1))], [p0, p1], [(.l p2), (.r p2), (.l (.l p1)), (.r (.l p1)), (.l (.r p1)), (.r (.r p1)), (.l (.l p2))]⟩
noncomputable def r60x0 : RF := fun call ρ st K => K [(.sc .nils)] st
theorem h60x0 : RegOk [⟨(some p2), none, (.move (.c (.sc .nils)))⟩] [p2] r60x0 := by
  intro call ρ st K
  kernel_rfl
noncomputable def r60x1 : RF := fun call ρ st K => cnv .i64 (ρ p0) (fun v => (fun v0 st => binK .add (i6 5) v0 (fun v => (fun v1 st => binK .sub v1 (i6 1) (fun v => (fun v2 st => call (nat_lit 38) [v2] st (fun v3 st => K [v3] st)) v st)) v st)) v st)
theorem h60x1 : RegOk [⟨(some (.l p1)), none, (.move (.t p0))⟩, ⟨(some (.r p1)), none, (.more (.conv .i64 (.t (.l p1))))⟩, ⟨(some (.l p2)), none, (.bin .add (.c (.sc (.int .i64 (.ofNat (nat_lit 5))))) (.t (.r p1)))⟩, ⟨(some (.r p2)), none, (.bin .sub (.t (.l p2)) (.c (.sc (.int .i64 (.ofNat (nat_lit 1))))))⟩, ⟨(some (.l (.l p1))), none, (.call (nat_lit 38) [(.t (.r p2))])⟩, ⟨(some p2), none, (.move (.t (.l (.l p1))))⟩] [p2] r60x1 := by
  intro call ρ st K
  kernel_rfl
/- (*attestor/trace.list).result$1 -/
noncomputable def cf60 : HF := ⟨(.seq (.reg _ _ _ h60x0)
 (.seq (.reg _ _ _ h60x1)
 .ret)), [(.tmp p2)], [p0], [(.l p1), (.r p1), (.l p2), (.r p2), (.l (.l p1))]⟩
noncomputable def r42x0 : RF := fun call ρ st K => K [(.sc .nils)] st
theorem h42x0 : RegOk [⟨(some p2), none, (.move (.c (.sc .nils)))⟩] [p2] r42x0 := by
  intro call ρ st K
  kernel_rfl
noncomputable def r42x1 : RF := fun call ρ st K => K [(i6 0)] st
theorem h42x1 : RegOk [⟨(some (.r p1)), none, (.move (.c (.sc (.int .i64 (.ofNat (nat_lit 0))))))⟩] [(.r p1)] r42x1 := by
  intro call ρ st K
  kernel_rfl
noncomputable def r42x2 : RF := fun call ρ st K => binK .lss (ρ (.r p1)) (i6 16) (fun v => (fun v0 st => K [v0] st) v st)
theorem h42x2 : RegOk [⟨(some (.l p2)), none, (.bin .lss (.t (.r p1)) (.c (.sc (.int .i64 (.ofNat (nat_lit 16))))))⟩] [(.l p2)] r42x2 := by
  intro call ρ st K
  kernel_rfl
noncomputable def r42x3 : RF := fun call ρ st K => K [(ρ (.r p1))] st
theorem h42x3 : RegOk [⟨(some (.r p2)), none, (.move (.t (.r p1)))⟩, ⟨(some (.l p1)), none, (.move (.t (.r p2)))⟩] [(.l p1)] r42x3 := by
  intro call ρ st K
  kernel_rfl
noncomputable def r42x4 : RF := fun call ρ st K => binK .add (i6 5) (ρ (.l p1)) (fun v => (fun v0 st => call (nat_lit 38) [v0] st (fun v1 st => binK .add (i6 5) (ρ (.l p1)) (fun v => (fun v2 st => call (nat_lit 38) [v2] st (fun v3 st => h_op3_buildS (nat_lit 2) (nat_lit 1) [.nils, .nils] [((nat_lit 0), (nat_lit 1), (.c v1)), ((nat_lit 1), (nat_lit 1), (.c v3))] call ρ st (fun v4 st => call (nat_lit 58) [v4] st (fun v5 st => binK .add (i6 5) (ρ (.l p1)) (fun v => (fun v6 st => call (nat_lit 38) [v6] st (fun v7 st => h_op3_buildS (nat_lit 1) (nat_lit 1) [.nils] [((nat_lit 0), (nat_lit 1), (.c v7))] call ρ st (fun v8 st => call (nat_lit 39) [v5, v8] st (fun v9 st => h_op3_buildS (nat_lit 1) (nat_lit 1) [.nils] [((nat_lit 0), (nat_lit 1), (.c v9))] call ρ st (fun v10 st => call (nat_lit 37) [(ρ p0), (u8 1), v10] st (fun v11 st => K [] st)))))) v st))))) v st))) v st)
theorem h42x4 : RegOk [⟨(some (.l (.l p1))), none, (.move (.t p0))⟩, ⟨(some (.r (.l p1))), none, (.move (.t (.l p1)))⟩, ⟨(some (.l (.r p1))), none, (.bin .add (.c (.sc (.int .i64 (.ofNat (nat_lit 5))))) (.t (.r (.l p1))))⟩, ⟨(some (.r (.r p1))), none, (.call (nat_lit 38) [(.t (.l (.r p1)))])⟩, ⟨(some (.l (.l p2))), none, (.move (.t (.l p1)))⟩, ⟨(some (.r (.l p2))), none, (.bin .add (.c (.sc (.int .i64 (.ofNat (nat_lit 5))))) (.t (.l (.l p2))))⟩, ⟨(some (.l (.r p2))), none, (.call (nat_lit 38) [(.t (.r (.l p2)))])⟩, ⟨(some (.r (.r p2))), none, (.more (.more (.buildS (nat_lit 2) (nat_lit 1) [.nils, .nils] [((nat_lit 0), (nat_lit 1), (.t (.r (.r p1)))), ((nat_lit 1), (nat_lit 1), (.t (.l (.r p2))))])))⟩, ⟨(some (.l (.l (.l p1)))), none, (.call (nat_lit 58) [(.t (.r (.r p2)))])⟩, ⟨(some (.r (.l (.l p1)))), none, (.move (.t (.l p1)))⟩, ⟨(some (.l (.r (.l p1)))), none, (.bin .add (.c (.sc (.int .i64 (.ofNat (nat_lit 5))))) (.t (.r (.l (.l p1)))))⟩, ⟨(some (.r (.r (.l p1)))), none, (.call (nat_lit 38) [(.t (.l (.r (.l p1))))])⟩, ⟨(some (.l (.l (.r p1)))), none, (.more (.more (.buildS (nat_lit 1) (nat_lit 1) [.nils] [((nat_lit 0), (nat_lit 1), (.t (.r (.r (.l p1)))))])))⟩, ⟨(some (.r (.l (.r p1)))), none, (.call (nat_lit 39) [(.t (.l (.l (.l p1)))), (.t (.l (.l (.r p1))))])⟩, ⟨(some (.l (.r (.r p1)))), none, (.more (.more (.buildS (nat_lit 1) (nat_lit 1) [.nils] [((nat_lit 0), (nat_lit 1), (.t (.r (.l (.r p1)))))])))⟩, ⟨(some (.r (.r (.r p1)))), none, (.call (nat_lit 37) [(.t (.l (.l p1))), (.c (.sc (.int .u8 (.ofNat (nat_lit 1))))), (.t (.l (.r (.r p1))))])⟩] [] r42x4 := by
  intro call ρ st K
  kernel_rfl
noncomputable def r42x5 : RF := fun call ρ st K => (fun n0 mk => (fun v st => (fun v0 mk st => (fun v st => (fun v1 mk st => binK .add (i6 5) v1 (fun v => (fun v st => (fun v2 mk st => dw3 mk (nat_lit 8) (nat_lit 6) st (fun st q => call (nat_lit 38) [v2] st (q)) (fun v3 mk st => (fun v st => (fun v4 mk st => h_op4_shift true (.c (u6 1)) (.c v4) call ρ st (fun v st => (fun v5 mk st => dw3 mk (nat_lit 64) (nat_lit 62) st (fun st q => call (nat_lit 56) [v3, v5] st (q)) (fun v6 mk st => dw1 mk (nat_lit 128) (fun q => h_op3_buildS (nat_lit 2) (nat_lit 1) [.nils, .nils] [((nat_lit 0), (nat_lit 1), (.c v0)), ((nat_lit 1), (nat_lit 1), (.c v6))] call ρ st (q)) (fun v7 mk st => dw3 mk (nat_lit 256) (nat_lit 255) st (fun st q => call (nat_lit 55) [v7] st (q)) (fun v8 mk st => (fun v st => (fun v9 mk st => K [v9] st) v mk st) v8 st)))) v mk st)) v mk st) (ρ (.l p1)) st)) v mk st) v st)) v mk st) (ρ (.l p1)) st) v mk st) (ρ p2) st) st.next mk0
theorem h42x5 : DrwOk [⟨(some (.l (.l (.l p2)))), none, (.move (.t p2)), (nat_lit 0), (nat_lit 1), (nat_lit 0)⟩, ⟨(some (.r (.l (.l p2)))), none, (.move (.t (.l p1))), (nat_lit 0), (nat_lit 2), (nat_lit 0)⟩, ⟨(some (.l (.r (.l p2)))), none, (.bin .add (.c (.sc (.int .i64 (.ofNat (nat_lit 5))))) (.t (.r (.l (.l p2))))), (nat_lit 0), (nat_lit 4), (nat_lit 2)⟩, ⟨(some (.r (.r (.l p2)))), none, (.call (nat_lit 38) [(.t (.l (.r (.l p2))))]), (nat_lit 3), (nat_lit 8), (nat_lit 6)⟩, ⟨(some (.l (.l (.r p2)))), none, (.move (.t (.l p1))), (nat_lit 0), (nat_lit 16), (nat_lit 0)⟩, ⟨(some (.r (.l (.r p2)))), none, (.more (.more (.more (.shift true (.c (.sc (.int .u64 (.ofNat (nat_lit 1))))) (.t (.l (.l (.r p2)))))))), (nat_lit 0), (nat_lit 32), (nat_lit 16)⟩, ⟨(some (.l (.r (.r p2)))), none, (.call (nat_lit 56) [(.t (.r (.r (.l p2)))), (.t (.r (.l (.r p2))))]), (nat_lit 3), (nat_lit 64), (nat_lit 62)⟩, ⟨(some (.r (.r (.r p2)))), none, (.more (.more (.buildS (nat_lit 2) (nat_lit 1) [.nils, .nils] [((nat_lit 0), (nat_lit 1), (.t (.l (.l (.l p2))))), ((nat_lit 1), (nat_lit 1), (.t (.l (.r (.r p2)))))]))), (nat_lit 1), (nat_lit 128), (nat_lit 127)⟩, ⟨(some (.l (.l (.l (.l p1))))), none, (.call (nat_lit 55) [(.t (.r (.r (.r p2))))]), (nat_lit 3), (nat_lit 256), (nat_lit 255)⟩, ⟨(some p2), none, (.move (.t (.l (.l (.l (.l p1)))))), (nat_lit 0), (nat_lit 512), (nat_lit 511)⟩] [p2] r42x5 := by
  intro call ρ st K
  kernel_rfl
noncomputable def r42x6 : RF := fun call ρ st K => binK .add (ρ (.r p1)) (i6 1) (fun v => (fun v0 st => K [v0] st) v st)
theorem h42x6 : RegOk [⟨(some (.r (.l (.l (.l p1))))), none, (.bin .add (.t (.r p1)) (.c (.sc (.int .i64 (.ofNat (nat_lit 1))))))⟩, ⟨(some (.r p1)), none, (.move (.t (.r (.l (.l (.l p1))))))⟩] [(.r p1)] r42x6 := by
  intro call ρ st K
  kernel_rfl
noncomputable def r42x7 : RF := fun call ρ st K => call (nat_lit 38) [(i6 21)] st (fun v0 st => h_op3_buildS (nat_lit 1) (nat_lit 1) [.nils] [((nat_lit 0), (nat_lit 1), (.c (ρ p2)))] call ρ st (fun v1 st => call (nat_lit 39) [v0, v1] st (fun v2 st => call (nat_lit 38) [(i6 23)] st (fun v3 st => call (nat_lit 59) [(i6 13)] st (fun v4 st => h_op3_buildS (nat_lit 1) (nat_lit 1) [.nils] [((nat_lit 0), (nat_lit 1), (.c v4))] call ρ st (fun v5 st => call (nat_lit 39) [v3, v5] st (fun v6 st => call (nat_lit 38) [(i6 24)] st (fun v7 st => call (nat_lit 59) [(i6 17)] st (fun v8 st => h_op3_buildS (nat_lit 1) (nat_lit 1) [.nils] [((nat_lit 0), (nat_lit 1), (.c v8))] call ρ st (fun v9 st => call (nat_lit 39) [v7, v9] st (fun v10 st => h_op3_buildS (nat_lit 3) (nat_lit 1) [.nils, .nils, .nils] [((nat_lit 0), (nat_lit 1), (.c v2)), ((nat_lit 1), (nat_lit 1), (.c v6)), ((nat_lit 2), (nat_lit 1), (.c v10))] call ρ st (fun v11 st => call (nat_lit 37) [(ρ p0), (u8 1), v11] st (fun v12 st => K [] st)))))))))))))
theorem h42x7 : RegOk [⟨(some (.l (.r (.l (.l p1))))), none, (.move (.t p0))⟩, ⟨(some (.r (.r (.l (.l p1))))), none, (.call (nat_lit 38) [(.c (.sc (.int .i64 (.ofNat (nat_lit 21)))))])⟩, ⟨(some (.l (.l (.r (.l p1))))), none, (.move (.t p2))⟩, ⟨(some (.r (.l (.r (.l p1))))), none, (.more (.more (.buildS (nat_lit 1) (nat_lit 1) [.nils] [((nat_lit 0), (nat_lit 1), (.t (.l (.l (.r (.l p1))))))])))⟩, ⟨(some (.l (.r (.r (.l p1))))), none, (.call (nat_lit 39) [(.t (.r (.r (.l (.l p1))))), (.t (.r (.l (.r (.l p1)))))])⟩, ⟨(some (.r (.r (.r (.l p1))))), none, (.call (nat_lit 38) [(.c (.sc (.int .i64 (.ofNat (nat_lit 23)))))])⟩, ⟨(some (.l (.l (.l (.r p1))))), none, (.call (nat_lit 59) [(.c (.sc (.int .i64 (.ofNat (nat_lit 13)))))])⟩, ⟨(some (.r (.l (.l (.r p1))))), none, (.more (.more (.buildS (nat_lit 1) (nat_lit 1) [.nils] [((nat_lit 0), (nat_lit 1), (.t (.l (.l (.l (.r p1))))))])))⟩, ⟨(some (.l (.r (.l (.r p1))))), none, (.call (nat_lit 39) [(.t (.r (.r (.r (.l p1))))), (.t (.r (.l (.l (.r p1)))))])⟩, ⟨(some (.r (.r (.l (.r p1))))), none, (.call (nat_lit 38) [(.c (.sc (.int .i64 (.ofNat (nat_lit 24)))))])⟩, ⟨(some (.l (.l (.r (.r p1))))), none, (.call (nat_lit 59) [(.c (.sc (.int .i64 (.ofNat (nat_lit 17)))))])⟩, ⟨(some (.r (.l (.r (.r p1))))), none, (.more (.more (.buildS (nat_lit 1) (nat_lit 1) [.nils] [((nat_lit 0), (nat_lit 1), (.t (.l (.l (.r (.r p1))))))])))⟩, ⟨(some (.l (.r (.r (.r p1))))), none, (.call (nat_lit 39) [(.t (.r (.r (.l (.r p1))))), (.t (.r (.l (.r (.r p1)))))])⟩, ⟨(some (.r (.r (.r (.r p1))))), none, (.more (.more (.buildS (nat_lit 3) (nat_lit 1) [.nils, .nils, .nils] [((nat_lit 0), (nat_lit 1), (.t (.l (.r (.r (.l p1)))))), ((nat_lit 1), (nat_lit 1), (.t (.l (.r (.l (.r p1)))))), ((nat_lit 2), (nat_lit 1), (.t (.l (.r (.r (.r p1))))))])))⟩, ⟨(some (.l (.l (.l (.l p2))))), none, (.call (nat_lit 37) [(.t (.l (.r (.l (.l p1))))), (.c (.sc (.int .u8 (.ofNat (nat_lit 1))))), (.t (.r (.r (.r (.r p1)))))])⟩] [] r42x7 := by
  intro call ρ st K
  kernel_rfl
/- (*attestor/trace.list).instruction -/
noncomputable def cf42 : HF := ⟨(.seq (.reg _ _ _ h42x0)
 (.seq (.seq (.reg _ _ _ h42x1)
 (.block (nat_lit 0) (.loop (.seq (.reg _ _ _ h42x2)
 (.seq (.cond (.t (.l p2)) .skip
 (.exit (nat_lit 0)))
 (.seq (.block (nat_lit 1) (.seq (.reg _ _ _ h42x3)
 (.seq (.reg _ _ _ h42x4)
 (.drw _ _ _ h42x5))))
 (.reg _ _ _ h42x6)))))))
 (.reg _ _ _ h42x7))), [], [p0], [(.r p2), (.l (.l p1)), (.r (.l p1)), (.l (.r p1)), (.r (.r p1)), (.l (.l p2)), (.r (.l p2)), (.l (.r p2)), (.r (.r p2)), (.l (.l (.l p1))), (.r (.l (.l p1))), (.l (.r (.l p1))), (.r (.r (.l p1))), (.l (.l (.r p1))), (.r (.l (.r p1))), (.l (.r (.r p1))), (.r (.r (.r p1))), (.l (.l (.l p2))), (.r (.l (.l p2))), (.l (.r (.l p2))), (.r (.r (.l p2))), (.l (.l (.r p2))), (.r (.l (.r p2))), (.l (.r (.r p2))), (.r (.r (.r p2))), (.l (.l (.l (.l p1)))), (.r (.l (.l (.l p1)))), (.l (.r (.l (.l p1)))), (.r (.r (.l (.l p1)))), (.l (.l (.r (.l p1)))), (.r (.l (.r (.l p1)))), (.l (.r (.r (.l p1)))), (.r (.r (.r (.l p1)))), (.l (.l (.l (.r p1)))), (.r (.l (.l (.r p1)))), (.l (.r (.l (.r p1)))), (.r (.r (.l (.r p1)))), (.l (.l (.r (.r p1)))), (.r (.l (.r (.r p1)))), (.l (.r (.r (.r p1)))), (.r (.r (.r (.r p1)))), (.l (.l (.l (.l p2))))]⟩
noncomputable def r59x0 : RF := fun call ρ st K => K [(.sc .nils)] st
theorem h59x0 : RegOk [⟨(some p2), none, (.move (.c (.sc .nils)))⟩] [p2] r59x0 := by
  intro call ρ st K
  kernel_rfl
noncomputable def r59x1 : RF := fun call ρ st K => K [(.sc .nils)] st
theorem h59x1 : RegOk [⟨(some (.l p1)), none, (.move (.c (.sc .nils)))⟩] [(.l p1)] r59x1 := by
  intro call ρ st K
  kernel_rfl
noncomputable def r59x2 : RF := fun call ρ st K => K [(i6 0)] st
theorem h59x2 : RegOk [⟨(some (.l p2)), none, (.move (.c (.sc (.int .i64 (.ofNat (nat_lit 0))))))⟩] [(.l p2)] r59x2 := by
  intro call ρ st K
  kernel_rfl
noncomputable def r59x3 : RF := fun call ρ st K => binK .lss (ρ (.l p2)) (i6 4) (fun v => (fun v0 st => K [v0] st) v st)
theorem h59x3 : RegOk [⟨(some (.r p2)), none, (.bin .lss (.t (.l p2)) (.c (.sc (.int .i64 (.ofNat (nat_lit 4))))))⟩] [(.r p2)] r59x3 := by
  intro call ρ st K
  kernel_rfl
noncomputable def r59x4 : RF := fun call ρ st K => K [(ρ (.l p2))] st
theorem h59x4 : RegOk [⟨(some (.l (.l p1))), none, (.move (.t (.l p2)))⟩, ⟨(some (.r p1)), none, (.move (.t (.l (.l p1))))⟩] [(.r p1)] r59x4 := by
  intro call ρ st K
  kernel_rfl
noncomputable def r59x5 : RF := fun call ρ st K => binK .add (ρ p0) (ρ (.r p1)) (fun v => (fun v0 st => call (nat_lit 38) [v0] st (fun v1 st => binK .add (i6 1) (ρ (.r p1)) (fun v => (fun v2 st => call (nat_lit 38) [v2] st (fun v3 st => h_op3_buildS (nat_lit 2) (nat_lit 1) [.nils, .nils] [((nat_lit 0), (nat_lit 1), (.c v1)), ((nat_lit 1), (nat_lit 1), (.c v3))] call ρ st (fun v4 st => call (nat_lit 58) [v4] st (fun v5 st => h_op3_buildS (nat_lit 2) (nat_lit 1) [.nils, .nils] [((nat_lit 0), (nat_lit 1), (.c (ρ (.l p1)))), ((nat_lit 1), (nat_lit 1), (.c v5))] call ρ st (fun v6 st => call (nat_lit 55) [v6] st (fun v7 st => K [v7] st)))))) v st))) v st)
theorem h59x5 : RegOk [⟨(some (.r (.l p1))), none, (.move (.t (.l p1)))⟩, ⟨(some (.l (.r p1))), none, (.move (.t p0))⟩, ⟨(some (.r (.r p1))), none, (.move (.t (.r p1)))⟩, ⟨(some (.l (.l p2))), none, (.bin .add (.t (.l (.r p1))) (.t (.r (.r p1))))⟩, ⟨(some (.r (.l p2))), none, (.call (nat_lit 38) [(.t (.l (.l p2)))])⟩, ⟨(some (.l (.r p2))), none, (.move (.t (.r p1)))⟩, ⟨(some (.r (.r p2))), none, (.bin .add (.c (.sc (.int .i64 (.ofNat (nat_lit 1))))) (.t (.l (.r p2))))⟩, ⟨(some (.l (.l (.l p1)))), none, (.call (nat_lit 38) [(.t (.r (.r p2)))])⟩, ⟨(some (.r (.l (.l p1)))), none, (.more (.more (.buildS (nat_lit 2) (nat_lit 1) [.nils, .nils] [((nat_lit 0), (nat_lit 1), (.t (.r (.l p2)))), ((nat_lit 1), (nat_lit 1), (.t (.l (.l (.l p1)))))])))⟩, ⟨(some (.l (.r (.l p1)))), none, (.call (nat_lit 58) [(.t (.r (.l (.l p1))))])⟩, ⟨(some (.r (.r (.l p1)))), none, (.more (.more (.buildS (nat_lit 2) (nat_lit 1) [.nils, .nils] [((nat_lit 0), (nat_lit 1), (.t (.r (.l p1)))), ((nat_lit 1), (nat_lit 1), (.t (.l (.r (.l p1)))))])))⟩, ⟨(some (.l (.l (.r p1)))), none, (.call (nat_lit 55) [(.t (.r (.r (.l p1))))])⟩, ⟨(some (.l p1)), none, (.move (.t (.l (.l (.r p1)))))⟩] [(.l p1)] r59x5 := by
  intro call ρ st K
  kernel_rfl
noncomputable def r59x6 : RF := fun call ρ st K => binK .add (ρ (.l p2)) (i6 1) (fun v => (fun v0 st => K [v0] st) v st)
theorem h59x6 : RegOk [⟨(some (.r (.l (.r p1)))), none, (.bin .add (.t (.l p2)) (.c (.sc (.int .i64 (.ofNat (nat_lit 1))))))⟩, ⟨(some (.l p2)), none, (.move (.t (.r (.l (.r p1)))))⟩] [(.l p2)] r59x6 := by
  intro call ρ st K
  kernel_rfl
noncomputable def r59x7 : RF := fun call ρ st K => K [(ρ (.l p1))] st
theorem h59x7 : RegOk [⟨(some (.l (.r (.r p1)))), none, (.move (.t (.l p1)))⟩, ⟨(some p2), none, (.move (.t (.l (.r (.r p1)))))⟩] [p2] r59x7 := by
  intro call ρ st K
  kernel_rfl
/- attestor/trace.selected -/
noncomputable def cf59 : HF := ⟨(.seq (.reg _ _ _ h59x0)
 (.seq (.reg _ _ _ h59x1)
 (.seq (.seq (.reg _ _ _ h59x2)
 (.block (nat_lit 0) (.loop (.seq (.reg _ _ _ h59x3)
 (.seq (.cond (.t (.r p2)) .skip
 (.exit (nat_lit 0)))
 (.seq (.block (nat_lit 1) (.seq (.reg _ _ _ h59x4)
 (.reg _ _ _ h59x5)))
 (.reg _ _ _ h59x6)))))))
 (.seq (.reg _ _ _ h59x7)
 .ret)))), [(.tmp p2)], [p0], [(.l (.l p1)), (.r (.l p1)), (.l (.r p1)), (.r (.r p1)), (.l (.l p2)), (.r (.l p2)), (.l (.r p2)), (.r (.r p2)), (.l (.l (.l p1))), (.r (.l (.l p1))), (.l (.r (.l p1))), (.r (.r (.l p1))), (.l (.l (.r p1))), (.r (.l (.r p1))), (.l (.r (.r p1)))]⟩
noncomputable def r41x0 : RF := fun call ρ st K => K [(.sc .nils)] st
theorem h41x0 : RegOk [⟨(some (.r p1)), none, (.move (.c (.sc .nils)))⟩] [(.r p1)] r41x0 := by
  intro call ρ st K
  kernel_rfl
noncomputable def r41x1 : RF := fun call ρ st K => K [(.sc .nils)] st
theorem h41x1 : RegOk [⟨(some (.l p2)), none, (.move (.c (.sc .nils)))⟩] [(.l p2)] r41x1 := by
  intro call ρ st K
  kernel_rfl
noncomputable def r41x2 : RF := fun call ρ st K => K [(ρ p1), (i6 0)] st
theorem h41x2 : RegOk [⟨(some (.l (.l p1))), none, (.move (.t p1))⟩, ⟨(some (.r (.l p1))), none, (.move (.c (.sc (.int .i64 (.ofNat (nat_lit 0))))))⟩] [(.l (.l p1)), (.r (.l p1))] r41x2 := by
  intro call ρ st K
  kernel_rfl
noncomputable def r41x3 : RF := fun call ρ st K => binK .lss (ρ (.r (.l p1))) (ρ (.l (.l p1))) (fun v => (fun v0 st => K [v0] st) v st)
theorem h41x3 : RegOk [⟨(some (.l (.r p1))), none, (.bin .lss (.t (.r (.l p1))) (.t (.l (.l p1))))⟩] [(.l (.r p1))] r41x3 := by
  intro call ρ st K
  kernel_rfl
noncomputable def r41x4 : RF := fun call ρ st K => K [(ρ (.r (.l p1)))] st
theorem h41x4 : RegOk [⟨(some (.r (.r p1))), none, (.move (.t (.r (.l p1))))⟩, ⟨(some (.r p2)), none, (.move (.t (.r (.r p1))))⟩] [(.r p2)] r41x4 := by
  intro call ρ st K
  kernel_rfl
noncomputable def r41x5 : RF := fun call ρ st K => binK .add (ρ p0) (ρ (.r p2)) (fun v => (fun v0 st => call (nat_lit 38) [v0] st (fun v1 st => h_op3_buildS (nat_lit 2) (nat_lit 1) [.nils, .nils] [((nat_lit 0), (nat_lit 1), (.c (ρ (.l p2)))), ((nat_lit 1), (nat_lit 1), (.c v1))] call ρ st (fun v2 st => call (nat_lit 55) [v2] st (fun v3 st => K [v3] st)))) v st)
theorem h41x5 : RegOk [⟨(some (.l (.l p2))), none, (.move (.t (.l p2)))⟩, ⟨(some (.r (.l p2))), none, (.move (.t p0))⟩, ⟨(some (.l (.r p2))), none, (.move (.t (.r p2)))⟩, ⟨(some (.r (.r p2))), none, (.bin .add (.t (.r (.l p2))) (.t (.l (.r p2))))⟩, ⟨(some (.l (.l (.l p1)))), none, (.call (nat_lit 38) [(.t (.r (.r p2)))])⟩, ⟨(some (.r (.l (.l p1)))), none, (.more (.more (.buildS (nat_lit 2) (nat_lit 1) [.nils, .nils] [((nat_lit 0), (nat_lit 1), (.t (.l (.l p2)))), ((nat_lit 1), (nat_lit 1), (.t (.l (.l (.l p1)))))])))⟩, ⟨(some (.l (.r (.l p1)))), none, (.call (nat_lit 55) [(.t (.r (.l (.l p1))))])⟩, ⟨(some (.l p2)), none, (.move (.t (.l (.r (.l p1)))))⟩] [(.l p2)] r41x5 := by
  intro call ρ st K
  kernel_rfl
noncomputable def r41x6 : RF := fun call ρ st K => binK .add (ρ (.r (.l p1))) (i6 1) (fun v => (fun v0 st => K [v0] st) v st)
theorem h41x6 : RegOk [⟨(some (.r (.r (.l p1)))), none, (.bin .add (.t (.r (.l p1))) (.c (.sc (.int .i64 (.ofNat (nat_lit 1))))))⟩, ⟨(some (.r (.l p1))), none, (.move (.t (.r (.r (.l p1)))))⟩] [(.r (.l p1))] r41x6 := by
  intro call ρ st K
  kernel_rfl
noncomputable def r41x7 : RF := fun call ρ st K => K [(ρ (.l p2))] st
theorem h41x7 : RegOk [⟨(some (.l (.l (.r p1)))), none, (.move (.t (.l p2)))⟩, ⟨(some (.r p1)), none, (.move (.t (.l (.l (.r p1)))))⟩] [(.r p1)] r41x7 := by
  intro call ρ st K
  kernel_rfl
/- attestor/trace.span -/
noncomputable def cf41 : HF := ⟨(.seq (.reg _ _ _ h41x0)
 (.seq (.reg _ _ _ h41x1)
 (.seq (.seq (.reg _ _ _ h41x2)
 (.block (nat_lit 0) (.loop (.seq (.reg _ _ _ h41x3)
 (.seq (.cond (.t (.l (.r p1))) .skip
 (.exit (nat_lit 0)))
 (.seq (.block (nat_lit 1) (.seq (.reg _ _ _ h41x4)
 (.reg _ _ _ h41x5)))
 (.reg _ _ _ h41x6)))))))
 (.seq (.reg _ _ _ h41x7)
 .ret)))), [(.tmp (.r p1))], [p0, p1], [(.r (.r p1)), (.l (.l p2)), (.r (.l p2)), (.l (.r p2)), (.r (.r p2)), (.l (.l (.l p1))), (.r (.l (.l p1))), (.l (.r (.l p1))), (.r (.r (.l p1))), (.l (.l (.r p1)))]⟩
noncomputable def r37x0 : RF := fun call ρ st K => lnS (ρ p2) (fun v => (fun v0 st => K [(ρ p2), v0, (i6 0)] st) v st)
theorem h37x0 : RegOk [⟨(some (.r (.l p1))), none, (.move (.t p2))⟩, ⟨(some (.l (.r p1))), none, (.more (.len (.t (.r (.l p1)))))⟩, ⟨(some (.r (.r p1))), none, (.move (.c (.sc (.int .i64 (.ofNat (nat_lit 0))))))⟩] [(.r (.l p1)), (.l (.r p1)), (.r (.r p1))] r37x0 := by
  intro call ρ st K
  kernel_rfl
noncomputable def r37x1 : RF := fun call ρ st K => binK .lss (ρ (.r (.r p1))) (ρ (.l (.r p1))) (fun v => (fun v0 st => K [v0] st) v st)
theorem h37x1 : RegOk [⟨(some (.l (.l p2))), none, (.bin .lss (.t (.r (.r p1))) (.t (.l (.r p1))))⟩] [(.l (.l p2))] r37x1 := by
  intro call ρ st K
  kernel_rfl
noncomputable def r37x2 : RF := fun call ρ st K => ixs (nat_lit 1) (ρ (.r (.l p1))) (ρ (.r (.r p1))) (fun v => (fun v0 st => ld1 st v0 (fun v => (fun v1 st => K [v1] st) v st)) v st)
theorem h37x2 : RegOk [⟨(some (.r (.l p2))), none, (.idxS (nat_lit 1) (.t (.r (.l p1))) (.t (.r (.r p1))))⟩, ⟨(some (.l (.r p2))), none, (.load1 (.t (.r (.l p2))))⟩, ⟨(some (.l (.l p1))), none, (.move (.t (.l (.r p2))))⟩] [(.l (.l p1))] r37x2 := by
  intro call ρ st K
  kernel_rfl
noncomputable def r37x3 : RF := fun call ρ st K => h_op4_nilCheck (.c (ρ p0)) call ρ st (fun v0 st => ld1 st v0 (fun v => (fun v1 st => h_op3_build [(.int .u8 (.ofNat (nat_lit 0))), .nils] [((nat_lit 0), (nat_lit 1), (.c (ρ p1))), ((nat_lit 1), (nat_lit 1), (.c (ρ (.l (.l p1)))))] call ρ st (fun v2 st => h_op3_buildS (nat_lit 1) (nat_lit 2) [(.int .u8 (.ofNat (nat_lit 0))), .nils] [((nat_lit 0), (nat_lit 2), (.c v2))] call ρ st (fun v3 st => h_op3_append (nat_lit 2) (nat_lit 32) (.c v1) (.c v3) call ρ st (fun v4 st => h_op4_nilCheck (.c (ρ p0)) call ρ st (fun v5 st => sto st (nat_lit 1) v5 v4 ((fun _ st => K [] st) undefV)))))) v st))
theorem h37x3 : RegOk [⟨(some (.r (.r p2))), none, (.move (.t p0))⟩, ⟨(some (.l (.l (.l p1)))), none, (.move (.t p0))⟩, ⟨(some (.r (.l (.l p1)))), none, (.more (.more (.more (.nilCheck (.t (.l (.l (.l p1))))))))⟩, ⟨(some (.l (.r (.l p1)))), none, (.load1 (.t (.r (.l (.l p1)))))⟩, ⟨(some (.r (.r (.l p1)))), none, (.move (.t p1))⟩, ⟨(some (.l (.l (.r p1)))), none, (.move (.t (.l (.l p1))))⟩, ⟨(some (.r (.l (.r p1)))), none, (.more (.more (.build [(.int .u8 (.ofNat (nat_lit 0))), .nils] [((nat_lit 0), (nat_lit 1), (.t (.r (.r (.l p1))))), ((nat_lit 1), (nat_lit 1), (.t (.l (.l (.r p1)))))])))⟩, ⟨(some (.l (.r (.r p1)))), none, (.more (.more (.buildS (nat_lit 1) (nat_lit 2) [(.int .u8 (.ofNat (nat_lit 0))), .nils] [((nat_lit 0), (nat_lit 2), (.t (.r (.l (.r p1)))))])))⟩, ⟨(some (.r (.r (.r p1)))), none, (.more (.more (.append (nat_lit 2) (nat_lit 32) (.t (.l (.r (.l p1)))) (.t (.l (.r (.r p1)))))))⟩, ⟨(some (.l (.l (.l p2)))), none, (.more (.more (.more (.nilCheck (.t (.r (.r p2)))))))⟩, ⟨none, none, (.more (.store (nat_lit 1) (.t (.l (.l (.l p2)))) (.t (.r (.r (.r p1))))))⟩] [] r37x3 := by
  intro call ρ st K
  kernel_rfl
noncomputable def r37x4 : RF := fun call ρ st K => binK .add (ρ (.r (.r p1))) (i6 1) (fun v => (fun v0 st => K [v0] st) v st)
theorem h37x4 : RegOk [⟨(some (.r (.l (.l p2)))), none, (.bin .add (.t (.r (.r p1))) (.c (.sc (.int .i64 (.ofNat (nat_lit 1))))))⟩, ⟨(some (.r (.r p1))), none, (.move (.t (.r (.l (.l p2)))))⟩] [(.r (.r p1))] r37x4 := by
  intro call ρ st K
  kernel_rfl
/- (*attestor/trace.list).say -/
noncomputable def cf37 : HF := ⟨(.seq (.reg _ _ _ h37x0)
 (.block (nat_lit 0) (.loop (.seq (.reg _ _ _ h37x1)
 (.seq (.cond (.t (.l (.l p2))) .skip
 (.exit (nat_lit 0)))
 (.seq (.block (nat_lit 1) (.seq (.reg _ _ _ h37x2)
 (.reg _ _ _ h37x3)))
 (.reg _ _ _ h37x4))))))), [], [p0, p1, p2], [(.r (.l p2)), (.l (.r p2)), (.r (.r p2)), (.l (.l (.l p1))), (.r (.l (.l p1))), (.l (.r (.l p1))), (.r (.r (.l p1))), (.l (.l (.r p1))), (.r (.l (.r p1))), (.l (.r (.r p1))), (.r (.r (.r p1))), (.l (.l (.l p2))), (.r (.l (.l p2)))]⟩
noncomputable def r39x0 : RF := fun call ρ st K => K [(.sc .nils)] st
theorem h39x0 : RegOk [⟨(some (.r p1)), none, (.move (.c (.sc .nils)))⟩] [(.r p1)] r39x0 := by
  intro call ρ st K
  kernel_rfl
noncomputable def r39x1 : RF := fun call ρ st K => call (nat_lit 55) [(ρ p1)] st (fun v0 st => call (nat_lit 57) [(i6 3), (u6 1)] st (fun v1 st => call (nat_lit 56) [v0, v1] st (fun v2 st => h_op3_buildS (nat_lit 2) (nat_lit 1) [.nils, .nils] [((nat_lit 0), (nat_lit 1), (.c (ρ p0))), ((nat_lit 1), (nat_lit 1), (.c v2))] call ρ st (fun v3 st => call (nat_lit 55) [v3] st (fun v4 st => K [v4] st)))))
theorem h39x1 : RegOk [⟨(some (.l p2)), none, (.move (.t p0))⟩, ⟨(some (.r p2)), none, (.move (.t p1))⟩, ⟨(some (.l (.l p1))), none, (.call (nat_lit 55) [(.t (.r p2))])⟩, ⟨(some (.r (.l p1))), none, (.call (nat_lit 57) [(.c (.sc (.int .i64 (.ofNat (nat_lit 3))))), (.c (.sc (.int .u64 (.ofNat (nat_lit 1)))))])⟩, ⟨(some (.l (.r p1))), none, (.call (nat_lit 56) [(.t (.l (.l p1))), (.t (.r (.l p1)))])⟩, ⟨(some (.r (.r p1))), none, (.more (.more (.buildS (nat_lit 2) (nat_lit 1) [.nils, .nils] [((nat_lit 0), (nat_lit 1), (.t (.l p2))), ((nat_lit 1), (nat_lit 1), (.t (.l (.r p1))))])))⟩, ⟨(some (.l (.l p2))), none, (.call (nat_lit 55) [(.t (.r (.r p1)))])⟩, ⟨(some (.r p1)), none, (.move (.t (.l (.l p2))))⟩] [(.r p1)] r39x1 := by
  intro call ρ st K
  kernel_rfl
/- (attestor/trace.sum).less -/
noncomputable def cf39 : HF := ⟨(.seq (.reg _ _ _ h39x0)
 (.seq (.reg _ _ _ h39x1)
 .ret)), [(.tmp (.r p1))], [p0, p1], [(.l p2), (.r p2), (.l (.l p1)), (.r (.l p1)), (.l (.r p1)), (.r (.r p1)), (.l (.l p2))]⟩
noncomputable def r57x0 : RF := fun call ρ st K => K [(u6 0)] st
theorem h57x0 : RegOk [⟨(some (.r p1)), none, (.move (.c (.sc (.int .u64 (.ofNat (nat_lit 0))))))⟩] [(.r p1)] r57x0 := by
  intro call ρ st K
  kernel_rfl
noncomputable def r57x1 : RF := fun call ρ st K => call (nat_lit 50) [(ρ p0)] st (fun v0 st => K [v0] st)
theorem h57x1 : RegOk [⟨(some (.r p2)), none, (.move (.t p0))⟩, ⟨(some (.l (.l p1))), none, (.call (nat_lit 50) [(.t (.r p2))])⟩, ⟨(some (.l p2)), none, (.move (.t (.l (.l p1))))⟩] [(.l p2)] r57x1 := by
  intro call ρ st K
  kernel_rfl
noncomputable def r57x2 : RF := fun call ρ st K => binK .eql (ρ (.l p2)) (u6 0) (fun v => (fun v0 st => jn false v0 (fun j => (j) (ρ p1) st) st (fun v1 st => jn false v0 (fun j => (j) (ρ (.l p2)) st) st (fun v2 st => jn false v0 (fun j => binK .rem v1 v2 (fun v => (j) v st)) st (fun v3 st => jn false v0 (fun j => binK .eql v3 (u6 0) (fun v => (j) v st)) st (fun v4 st => pck v0 (.sc (.bool true)) v4 (fun v => (fun v5 st => K [v5] st) v st)))))) v st)
theorem h57x2 : RegOk [⟨(some (.r (.l p1))), none, (.move (.t (.l p2)))⟩, ⟨(some (.l (.r p1))), none, (.bin .eql (.t (.r (.l p1))) (.c (.sc (.int .u64 (.ofNat (nat_lit 0))))))⟩, ⟨(some (.r (.r p1))), none, (.move (.t (.l (.r p1))))⟩, ⟨(some (.l (.l p2))), (some ((.r (.r p1)), false)), (.move (.t p1))⟩, ⟨(some (.r (.l p2))), (some ((.r (.r p1)), false)), (.move (.t (.l p2)))⟩, ⟨(some (.l (.r p2))), (some ((.r (.r p1)), false)), (.bin .rem (.t (.l (.l p2))) (.t (.r (.l p2))))⟩, ⟨(some (.r (.r p2))), (some ((.r (.r p1)), false)), (.bin .eql (.t (.l (.r p2))) (.c (.sc (.int .u64 (.ofNat (nat_lit 0))))))⟩, ⟨(some (.l (.l (.l p1)))), none, (.more (.pick (.t (.r (.r p1))) (.c (.sc (.bool true))) (.t (.r (.r p2)))))⟩] [(.l (.l (.l p1)))] r57x2 := by
  intro call ρ st K
  kernel_rfl
noncomputable def r57x3 : RF := fun call ρ st K => K [(u6 0)] st
theorem h57x3 : RegOk [⟨(some (.r p1)), none, (.move (.c (.sc (.int .u64 (.ofNat (nat_lit 0))))))⟩] [(.r p1)] r57x3 := by
  intro call ρ st K
  kernel_rfl
noncomputable def r57x4 : RF := fun call ρ st K => binK .rem (ρ p1) (ρ (.l p2)) (fun v => (fun v0 st => binK .sub (ρ (.l p2)) v0 (fun v => (fun v1 st => K [v1] st) v st)) v st)
theorem h57x4 : RegOk [⟨(some (.r (.l (.l p1)))), none, (.move (.t (.l p2)))⟩, ⟨(some (.l (.r (.l p1)))), none, (.move (.t p1))⟩, ⟨(some (.r (.r (.l p1)))), none, (.move (.t (.l p2)))⟩, ⟨(some (.l (.l (.r p1)))), none, (.bin .rem (.t (.l (.r (.l p1)))) (.t (.r (.r (.l p1)))))⟩, ⟨(some (.r (.l (.r p1)))), none, (.bin .sub (.t (.r (.l (.l p1)))) (.t (.l (.l (.r p1)))))⟩, ⟨(some (.r p1)), none, (.move (.t (.r (.l (.r p1)))))⟩] [(.r p1)] r57x4 := by
  intro call ρ st K
  kernel_rfl
/- attestor/field.Neg -/
noncomputable def cf57 : HF := ⟨(.seq (.reg _ _ _ h57x0)
 (.seq (.reg _ _ _ h57x1)
 (.seq (.seq (.reg _ _ _ h57x2)
 (.cond (.t (.l (.l (.l p1)))) (.seq (.reg _ _ _ h57x3)
 .ret)
 .skip))
 (.seq (.reg _ _ _ h57x4)
 .ret)))), [(.tmp (.r p1))], [p0, p1], [(.r p2), (.l (.l p1)), (.r (.l p1)), (.l (.r p1)), (.r (.r p1)), (.l (.l p2)), (.r (.l p2)), (.l (.r p2)), (.r (.r p2)), (.r (.l (.l p1))), (.l (.r (.l p1))), (.r (.r (.l p1))), (.l (.l (.r p1))), (.r (.l (.r p1)))]⟩
noncomputable def r40x0 : RF := fun call ρ st K => K [(.sc .nils)] st
theorem h40x0 : RegOk [⟨(some p2), none, (.move (.c (.sc .nils)))⟩] [p2] r40x0 := by
  intro call ρ st K
  kernel_rfl
noncomputable def r40x1 : RF := fun call ρ st K => h_op3_build [(.int .u8 (.ofNat (nat_lit 0))), (.int .i64 (.ofNat (nat_lit 0)))] [((nat_lit 0), (nat_lit 1), (.c (u8 4))), ((nat_lit 1), (nat_lit 1), (.c (ρ p0)))] call ρ st (fun v0 st => h_op3_buildS (nat_lit 1) (nat_lit 2) [(.int .u8 (.ofNat (nat_lit 0))), (.int .i64 (.ofNat (nat_lit 0)))] [((nat_lit 0), (nat_lit 2), (.c v0))] call ρ st (fun v1 st => h_op3_build [(.int .u64 (.ofNat (nat_lit 0))), .nils] [((nat_lit 0), (nat_lit 1), (.c (u6 1))), ((nat_lit 1), (nat_lit 1), (.c v1))] call ρ st (fun v2 st => h_op3_buildS (nat_lit 1) (nat_lit 2) [(.int .u64 (.ofNat (nat_lit 0))), .nils] [((nat_lit 0), (nat_lit 2), (.c v2))] call ρ st (fun v3 st => K [v3] st))))
theorem h40x1 : RegOk [⟨(some (.l p1)), none, (.move (.t p0))⟩, ⟨(some (.r p1)), none, (.more (.more (.build [(.int .u8 (.ofNat (nat_lit 0))), (.int .i64 (.ofNat (nat_lit 0)))] [((nat_lit 0), (nat_lit 1), (.c (.sc (.int .u8 (.ofNat (nat_lit 4)))))), ((nat_lit 1), (nat_lit 1), (.t (.l p1)))])))⟩, ⟨(some (.l p2)), none, (.more (.more (.buildS (nat_lit 1) (nat_lit 2) [(.int .u8 (.ofNat (nat_lit 0))), (.int .i64 (.ofNat (nat_lit 0)))] [((nat_lit 0), (nat_lit 2), (.t (.r p1)))])))⟩, ⟨(some (.r p2)), none, (.more (.more (.build [(.int .u64 (.ofNat (nat_lit 0))), .nils] [((nat_lit 0), (nat_lit 1), (.c (.sc (.int .u64 (.ofNat (nat_lit 1)))))), ((nat_lit 1), (nat_lit 1), (.t (.l p2)))])))⟩, ⟨(some (.l (.l p1))), none, (.more (.more (.buildS (nat_lit 1) (nat_lit 2) [(.int .u64 (.ofNat (nat_lit 0))), .nils] [((nat_lit 0), (nat_lit 2), (.t (.r p2)))])))⟩, ⟨(some p2), none, (.move (.t (.l (.l p1))))⟩] [p2] r40x1 := by
  intro call ρ st K
  kernel_rfl
/- attestor/trace.input -/
noncomputable def cf40 : HF := ⟨(.seq (.reg _ _ _ h40x0)
 (.seq (.reg _ _ _ h40x1)
 .ret)), [(.tmp p2)], [p0], [(.l p1), (.r p1), (.l p2), (.r p2), (.l (.l p1))]⟩
noncomputable def r38x0 : RF := fun call ρ st K => K [(.sc .nils)] st
theorem h38x0 : RegOk [⟨(some p2), none, (.move (.c (.sc .nils)))⟩] [p2] r38x0 := by
  intro call ρ st K
  kernel_rfl
noncomputable def r38x1 : RF := fun call ρ st K => call (nat_lit 22) [(ρ p0)] st (fun v0 st => h_op3_buildS (nat_lit 1) (nat_lit 2) [(.int .u8 (.ofNat (nat_lit 0))), (.int .i64 (.ofNat (nat_lit 0)))] [((nat_lit 0), (nat_lit 2), (.c v0))] call ρ st (fun v1 st => h_op3_build [(.int .u64 (.ofNat (nat_lit 0))), .nils] [((nat_lit 0), (nat_lit 1), (.c (u6 1))), ((nat_lit 1), (nat_lit 1), (.c v1))] call ρ st (fun v2 st => h_op3_buildS (nat_lit 1) (nat_lit 2) [(.int .u64 (.ofNat (nat_lit 0))), .nils] [((nat_lit 0), (nat_lit 2), (.c v2))] call ρ st (fun v3 st => K [v3] st))))
theorem h38x1 : RegOk [⟨(some (.l p1)), none, (.move (.t p0))⟩, ⟨(some (.r p1)), none, (.call (nat_lit 22) [(.t (.l p1))])⟩, ⟨(some (.l p2)), none, (.more (.more (.buildS (nat_lit 1) (nat_lit 2) [(.int .u8 (.ofNat (nat_lit 0))), (.int .i64 (.ofNat (nat_lit 0)))] [((nat_lit 0), (nat_lit 2), (.t (.r p1)))])))⟩, ⟨(some (.r p2)), none, (.more (.more (.build [(.int .u64 (.ofNat (nat_lit 0))), .nils] [((nat_lit 0), (nat_lit 1), (.c (.sc (.int .u64 (.ofNat (nat_lit 1)))))), ((nat_lit 1), (nat_lit 1), (.t (.l p2)))])))⟩, ⟨(some (.l (.l p1))), none, (.more (.more (.buildS (nat_lit 1) (nat_lit 2) [(.int .u64 (.ofNat (nat_lit 0))), .nils] [((nat_lit 0), (nat_lit 2), (.t (.r p2)))])))⟩, ⟨(some p2), none, (.move (.t (.l (.l p1))))⟩] [p2] r38x1 := by
  intro call ρ st K
  kernel_rfl
/- attestor/trace.now -/
noncomputable def cf38 : HF := ⟨(.seq (.reg _ _ _ h38x0)
 (.seq (.reg _ _ _ h38x1)
 .ret)), [(.tmp p2)], [p0], [(.l p1), (.r p1), (.l p2), (.r p2), (.l (.l p1))]⟩
noncomputable def r10x0 : RF := fun call ρ st K => K [(i6 0)] st
theorem h10x0 : RegOk [⟨(some (.r p1)), none, (.move (.c (.sc (.int .i64 (.ofNat (nat_lit 0))))))⟩] [(.r p1)] r10x0 := by
  intro call ρ st K
  kernel_rfl
noncomputable def r10x1 : RF := fun call ρ st K => call (nat_lit 25) [(ρ p0)] st (fun v0 st => binK .neq v0 (i6 0) (fun v => (fun v1 st => jn false v1 (fun j => (j) (ρ p1) st) st (fun v2 st => jn false v1 (fun j => binK .lss v2 (i6 4) (fun v => (j) v st)) st (fun v3 st => pck v1 (.sc (.bool true)) v3 (fun v => (fun v4 st => jn false v4 (fun j => (j) (ρ p1) st) st (fun v5 st => jn false v4 (fun j => binK .gtr v5 (i6 13) (fun v => (j) v st)) st (fun v6 st => pck v4 (.sc (.bool true)) v6 (fun v => (fun v7 st => K [v7] st) v st)))) v st)))) v st))
theorem h10x1 : RegOk [⟨(some (.r p2)), none, (.move (.t p0))⟩, ⟨(some (.l (.l p1))), none, (.call (nat_lit 25) [(.t (.r p2))])⟩, ⟨(some (.r (.l p1))), none, (.bin .neq (.t (.l (.l p1))) (.c (.sc (.int .i64 (.ofNat (nat_lit 0))))))⟩, ⟨(some (.l (.r p1))), none, (.move (.t (.r (.l p1))))⟩, ⟨(some (.r (.r p1))), (some ((.l (.r p1)), false)), (.move (.t p1))⟩, ⟨(some (.l (.l p2))), (some ((.l (.r p1)), false)), (.bin .lss (.t (.r (.r p1))) (.c (.sc (.int .i64 (.ofNat (nat_lit 4))))))⟩, ⟨(some (.r (.l p2))), none, (.more (.pick (.t (.l (.r p1))) (.c (.sc (.bool true))) (.t (.l (.l p2)))))⟩, ⟨(some (.l (.r p2))), none, (.move (.t (.r (.l p2))))⟩, ⟨(some (.r (.r p2))), (some ((.l (.r p2)), false)), (.move (.t p1))⟩, ⟨(some (.l (.l (.l p1)))), (some ((.l (.r p2)), false)), (.bin .gtr (.t (.r (.r p2))) (.c (.sc (.int .i64 (.ofNat (nat_lit 13))))))⟩, ⟨(some (.r (.l (.l p1)))), none, (.more (.pick (.t (.l (.r p2))) (.c (.sc (.bool true))) (.t (.l (.l (.l p1))))))⟩, ⟨(some (.l p2)), none, (.move (.t (.r (.l (.l p1)))))⟩] [(.l p2)] r10x1 := by
  intro call ρ st K
  kernel_rfl
noncomputable def r10x2 : RF := fun call ρ st K => K [(i6 1)] st
theorem h10x2 : RegOk [⟨(some (.r p1)), none, (.move (.c (.sc (.int .i64 (.ofNat (nat_lit 1))))))⟩] [(.r p1)] r10x2 := by
  intro call ρ st K
  kernel_rfl
noncomputable def r10x3 : RF := fun call ρ st K => h_op4_shift true (.c (i6 1)) (.c (ρ p1)) call ρ st (fun v0 st => lnS (ρ p0) (fun v => (fun v1 st => binK .leq v0 v1 (fun v => (fun v2 st => K [v2] st) v st)) v st))
theorem h10x3 : RegOk [⟨(some (.r (.r (.l p1)))), none, (.move (.t p1))⟩, ⟨(some (.l (.l (.r p1)))), none, (.more (.more (.more (.shift true (.c (.sc (.int .i64 (.ofNat (nat_lit 1))))) (.t (.r (.r (.l p1))))))))⟩, ⟨(some (.r (.l (.r p1)))), none, (.move (.t p0))⟩, ⟨(some (.l (.r (.r p1)))), none, (.more (.len (.t (.r (.l (.r p1))))))⟩, ⟨(some (.r (.r (.r p1)))), none, (.bin .leq (.t (.l (.l (.r p1)))) (.t (.l (.r (.r p1)))))⟩, ⟨(some (.l (.r (.l p1)))), none, (.move (.t (.r (.r (.r p1)))))⟩] [(.l (.r (.l p1)))] r10x3 := by
  intro call ρ st K
  kernel_rfl
noncomputable def r10x4 : RF := fun call ρ st K => K [(i6 3)] st
theorem h10x4 : RegOk [⟨(some (.r p1)), none, (.move (.c (.sc (.int .i64 (.ofNat (nat_lit 3))))))⟩] [(.r p1)] r10x4 := by
  intro call ρ st K
  kernel_rfl
noncomputable def r10x5 : RF := fun call ρ st K => K [(i6 0)] st
theorem h10x5 : RegOk [⟨(some (.r p1)), none, (.move (.c (.sc (.int .i64 (.ofNat (nat_lit 0))))))⟩] [(.r p1)] r10x5 := by
  intro call ρ st K
  kernel_rfl
/- attestor/trace.bounds -/
noncomputable def cf10 : HF := ⟨(.seq (.reg _ _ _ h10x0)
 (.seq (.block (nat_lit 0) (.seq (.reg _ _ _ h10x1)
 (.cond (.t (.l p2)) (.seq (.reg _ _ _ h10x2)
 .ret)
 (.seq (.reg _ _ _ h10x3)
 (.cond (.t (.l (.r (.l p1)))) (.seq (.reg _ _ _ h10x4)
 .ret)
 .skip)))))
 (.seq (.reg _ _ _ h10x5)
 .ret))), [(.tmp (.r p1))], [p0, p1], [(.r p2), (.l (.l p1)), (.r (.l p1)), (.l (.r p1)), (.r (.r p1)), (.l (.l p2)), (.r (.l p2)), (.l (.r p2)), (.r (.r p2)), (.l (.l (.l p1))), (.r (.l (.l p1))), (.r (.r (.l p1))), (.l (.l (.r p1))), (.r (.l (.r p1))), (.l (.r (.r p1))), (.r (.r (.r p1)))]⟩
noncomputable def r25x0 : RF := fun call ρ st K => K [(i6 0)] st
theorem h25x0 : RegOk [⟨(some p2), none, (.move (.c (.sc (.int .i64 (.ofNat (nat_lit 0))))))⟩] [p2] r25x0 := by
  intro call ρ st K
  kernel_rfl
noncomputable def r25x1 : RF := fun call ρ st K => lnS (ρ p0) (fun v => (fun v0 st => binK .gtr v0 (i6 32) (fun v => (fun v1 st => K [v1] st) v st)) v st)
theorem h25x1 : RegOk [⟨(some (.l p2)), none, (.move (.t p0))⟩, ⟨(some (.r p2)), none, (.more (.len (.t (.l p2))))⟩, ⟨(some (.l (.l p1))), none, (.bin .gtr (.t (.r p2)) (.c (.sc (.int .i64 (.ofNat (nat_lit 32))))))⟩] [(.l (.l p1))] r25x1 := by
  intro call ρ st K
  kernel_rfl
noncomputable def r25x2 : RF := fun call ρ st K => K [(i6 3)] st
theorem h25x2 : RegOk [⟨(some p2), none, (.move (.c (.sc (.int .i64 (.ofNat (nat_lit 3))))))⟩] [p2] r25x2 := by
  intro call ρ st K
  kernel_rfl
noncomputable def r25x3 : RF := fun call ρ st K => lnS (ρ p0) (fun v => (fun v0 st => K [(ρ p0), v0, (i6 0)] st) v st)
theorem h25x3 : RegOk [⟨(some (.r (.l p1))), none, (.move (.t p0))⟩, ⟨(some (.l (.r p1))), none, (.more (.len (.t (.r (.l p1)))))⟩, ⟨(some (.r (.r p1))), none, (.move (.c (.sc (.int .i64 (.ofNat (nat_lit 0))))))⟩] [(.r (.l p1)), (.l (.r p1)), (.r (.r p1))] r25x3 := by
  intro call ρ st K
  kernel_rfl
noncomputable def r25x4 : RF := fun call ρ st K => binK .lss (ρ (.r (.r p1))) (ρ (.l (.r p1))) (fun v => (fun v0 st => K [v0] st) v st)
theorem h25x4 : RegOk [⟨(some (.l (.l p2))), none, (.bin .lss (.t (.r (.r p1))) (.t (.l (.r p1))))⟩] [(.l (.l p2))] r25x4 := by
  intro call ρ st K
  kernel_rfl
noncomputable def r25x5 : RF := fun call ρ st K => ixs (nat_lit 4) (ρ (.r (.l p1))) (ρ (.r (.r p1))) (fun v => (fun v0 st => ldN st (nat_lit 4) v0 (fun v => (fun v1 st => alc st [(.int .u8 (.ofNat (nat_lit 0))), (.int .u8 (.ofNat (nat_lit 0))), (.int .u8 (.ofNat (nat_lit 0))), (.int .u8 (.ofNat (nat_lit 0)))] (fun v2 st => sto st (nat_lit 4) v2 v1 ((fun _ st => K [v2] st) undefV))) v st)) v st)
theorem h25x5 : RegOk [⟨(some (.r (.l p2))), none, (.idxS (nat_lit 4) (.t (.r (.l p1))) (.t (.r (.r p1))))⟩, ⟨(some (.l (.r p2))), none, (.loadN (nat_lit 4) (.t (.r (.l p2))))⟩, ⟨(some (.r p1)), none, (.more (.alloc [(.int .u8 (.ofNat (nat_lit 0))), (.int .u8 (.ofNat (nat_lit 0))), (.int .u8 (.ofNat (nat_lit 0))), (.int .u8 (.ofNat (nat_lit 0)))]))⟩, ⟨none, none, (.more (.store (nat_lit 4) (.t (.r p1)) (.t (.l (.r p2)))))⟩] [(.r p1)] r25x5 := by
  intro call ρ st K
  kernel_rfl
noncomputable def r25x6 : RF := fun call ρ st K => ldN st (nat_lit 4) (ρ (.r p1)) (fun v => (fun v0 st => call (nat_lit 47) [v0] st (fun v1 st => nott v1 (fun v => (fun v2 st => K [v2] st) v st))) v st)
theorem h25x6 : RegOk [⟨(some (.l (.l (.l p1)))), none, (.loadN (nat_lit 4) (.t (.r p1)))⟩, ⟨(some (.r (.l (.l p1)))), none, (.call (nat_lit 47) [(.t (.l (.l (.l p1))))])⟩, ⟨(some (.l (.r (.l p1)))), none, (.more (.more (.more (.not (.t (.r (.l (.l p1))))))))⟩, ⟨(some (.r (.r p2))), none, (.move (.t (.l (.r (.l p1)))))⟩] [(.r (.r p2))] r25x6 := by
  intro call ρ st K
  kernel_rfl
noncomputable def r25x7 : RF := fun call ρ st K => K [(i6 1)] st
theorem h25x7 : RegOk [⟨(some p2), none, (.move (.c (.sc (.int .i64 (.ofNat (nat_lit 1))))))⟩] [p2] r25x7 := by
  intro call ρ st K
  kernel_rfl
noncomputable def r25x8 : RF := fun call ρ st K => ldN st (nat_lit 4) (ρ (.r p1)) (fun v => (fun v0 st => lnS (ρ p0) (fun v => (fun v1 st => call (nat_lit 48) [v0, v1] st (fun v2 st => nott v2 (fun v => (fun v3 st => K [v3] st) v st))) v st)) v st)
theorem h25x8 : RegOk [⟨(some (.l (.l (.r p1)))), none, (.loadN (nat_lit 4) (.t (.r p1)))⟩, ⟨(some (.r (.l (.r p1)))), none, (.move (.t p0))⟩, ⟨(some (.l (.r (.r p1)))), none, (.more (.len (.t (.r (.l (.r p1))))))⟩, ⟨(some (.r (.r (.r p1)))), none, (.call (nat_lit 48) [(.t (.l (.l (.r p1)))), (.t (.l (.r (.r p1))))])⟩, ⟨(some (.l (.l (.l p2)))), none, (.more (.more (.more (.not (.t (.r (.r (.r p1))))))))⟩, ⟨(some (.r (.r (.l p1)))), none, (.move (.t (.l (.l (.l p2)))))⟩] [(.r (.r (.l p1)))] r25x8 := by
  intro call ρ st K
  kernel_rfl
noncomputable def r25x9 : RF := fun call ρ st K => K [(i6 2)] st
theorem h25x9 : RegOk [⟨(some p2), none, (.move (.c (.sc (.int .i64 (.ofNat (nat_lit 2))))))⟩] [p2] r25x9 := by
  intro call ρ st K
  kernel_rfl
noncomputable def r25x10 : RF := fun call ρ st K => binK .add (ρ (.r (.r p1))) (i6 1) (fun v => (fun v0 st => K [v0] st) v st)
theorem h25x10 : RegOk [⟨(some (.r (.l (.l p2)))), none, (.bin .add (.t (.r (.r p1))) (.c (.sc (.int .i64 (.ofNat (nat_lit 1))))))⟩, ⟨(some (.r (.r p1))), none, (.move (.t (.r (.l (.l p2)))))⟩] [(.r (.r p1))] r25x10 := by
  intro call ρ st K
  kernel_rfl
noncomputable def r25x11 : RF := fun call ρ st K => K [(i6 0)] st
theorem h25x11 : RegOk [⟨(some p2), none, (.move (.c (.sc (.int .i64 (.ofNat (nat_lit 0))))))⟩] [p2] r25x11 := by
  intro call ρ st K
  kernel_rfl
/- attestor/isa.Valid -/
noncomputable def cf25 : HF := ⟨(.seq (.reg _ _ _ h25x0)
 (.seq (.seq (.reg _ _ _ h25x1)
 (.cond (.t (.l (.l p1))) (.seq (.reg _ _ _ h25x2)
 .ret)
 .skip))
 (.seq (.seq (.reg _ _ _ h25x3)
 (.block (nat_lit 0) (.loop (.seq (.reg _ _ _ h25x4)
 (.seq (.cond (.t (.l (.l p2))) .skip
 (.exit (nat_lit 0)))
 (.seq (.block (nat_lit 1) (.seq (.reg _ _ _ h25x5)
 (.block (nat_lit 2) (.seq (.reg _ _ _ h25x6)
 (.cond (.t (.r (.r p2))) (.seq (.reg _ _ _ h25x7)
 .ret)
 (.seq (.reg _ _ _ h25x8)
 (.cond (.t (.r (.r (.l p1)))) (.seq (.reg _ _ _ h25x9)
 .ret)
 .skip)))))))
 (.reg _ _ _ h25x10)))))))
 (.seq (.reg _ _ _ h25x11)
 .ret)))), [(.tmp p2)], [p0], [(.l p2), (.r p2), (.r (.l p2)), (.l (.r p2)), (.l (.l (.l p1))), (.r (.l (.l p1))), (.l (.r (.l p1))), (.l (.l (.r p1))), (.r (.l (.r p1))), (.l (.r (.r p1))), (.r (.r (.r p1))), (.l (.l (.l p2))), (.r (.l (.l p2)))]⟩
noncomputable def r48x0 : RF := fun call ρ st K => bxx st (ρ p0) (fun v0 st => K [v0, (.sc (.bool false))] st)
theorem h48x0 : RegOk [⟨(some p2), none, (.more (.box (.t p0)))⟩, ⟨(some (.r p1)), none, (.move (.c (.sc (.bool false))))⟩] [p2, (.r p1)] r48x0 := by
  intro call ρ st K
  kernel_rfl
noncomputable def r48x1 : RF := fun call ρ st K => fad (nat_lit 0) (ρ p2) (fun v => (fun v0 st => ld1 st v0 (fun v => (fun v1 st => binK .neq v1 (u8 8) (fun v => (fun v2 st => jn false v2 (fun j => fad (nat_lit 3) (ρ p2) (fun v => (j) v st)) st (fun v3 st => jn false v2 (fun j => ld1 st v3 (fun v => (j) v st)) st (fun v4 st => jn false v2 (fun j => cnv .i64 v4 (fun v => (j) v st)) st (fun v5 st => jn false v2 (fun j => (j) (ρ p1) st) st (fun v6 st => jn false v2 (fun j => binK .leq v5 v6 (fun v => (j) v st)) st (fun v7 st => pck v2 (.sc (.bool true)) v7 (fun v => (fun v8 st => K [v8] st) v st))))))) v st)) v st)) v st)
theorem h48x1 : RegOk [⟨(some (.l p2)), none, (.fa (nat_lit 0) (.t p2))⟩, ⟨(some (.r p2)), none, (.load1 (.t (.l p2)))⟩, ⟨(some (.l (.l p1))), none, (.bin .neq (.t (.r p2)) (.c (.sc (.int .u8 (.ofNat (nat_lit 8))))))⟩, ⟨(some (.r (.l p1))), none, (.move (.t (.l (.l p1))))⟩, ⟨(some (.l (.r p1))), (some ((.r (.l p1)), false)), (.fa (nat_lit 3) (.t p2))⟩, ⟨(some (.r (.r p1))), (some ((.r (.l p1)), false)), (.load1 (.t (.l (.r p1))))⟩, ⟨(some (.l (.l p2))), (some ((.r (.l p1)), false)), (.more (.conv .i64 (.t (.r (.r p1)))))⟩, ⟨(some (.r (.l p2))), (some ((.r (.l p1)), false)), (.move (.t p1))⟩, ⟨(some (.l (.r p2))), (some ((.r (.l p1)), false)), (.bin .leq (.t (.l (.l p2))) (.t (.r (.l p2))))⟩, ⟨(some (.r (.r p2))), none, (.more (.pick (.t (.r (.l p1))) (.c (.sc (.bool true))) (.t (.l (.r p2)))))⟩, ⟨(some (.r p1)), none, (.move (.t (.r (.r p2))))⟩] [(.r p1)] r48x1 := by
  intro call ρ st K
  kernel_rfl
/- attestor/isa.lands -/
noncomputable def cf48 : HF := ⟨(.seq (.reg _ _ _ h48x0)
 (.seq (.reg _ _ _ h48x1)
 .ret)), [(.tmp (.r p1))], [p0, p1], [(.l p2), (.r p2), (.l (.l p1)), (.r (.l p1)), (.l (.r p1)), (.r (.r p1)), (.l (.l p2)), (.r (.l p2)), (.l (.r p2)), (.r (.r p2))]⟩
noncomputable def r47x0 : RF := fun call ρ st K => bxx st (ρ p0) (fun v0 st => K [v0, (.sc (.bool false))] st)
theorem h47x0 : RegOk [⟨(some p1), none, (.more (.box (.t p0)))⟩, ⟨(some p2), none, (.move (.c (.sc (.bool false))))⟩] [p1, p2] r47x0 := by
  intro call ρ st K
  kernel_rfl
noncomputable def r47x1 : RF := fun call ρ st K => fad (nat_lit 0) (ρ p1) (fun v => (fun v0 st => ld1 st v0 (fun v => (fun v1 st => cnv .i64 v1 (fun v => (fun v2 st => binK .geq v2 (i6 9) (fun v => (fun v3 st => jn false v3 (fun j => fad (nat_lit 1) (ρ p1) (fun v => (j) v st)) st (fun v4 st => jn false v3 (fun j => ld1 st v4 (fun v => (j) v st)) st (fun v5 st => jn false v3 (fun j => binK .gtr v5 (u8 3) (fun v => (j) v st)) st (fun v6 st => pck v3 (.sc (.bool true)) v6 (fun v => (fun v7 st => jn false v7 (fun j => fad (nat_lit 2) (ρ p1) (fun v => (j) v st)) st (fun v8 st => jn false v7 (fun j => ld1 st v8 (fun v => (j) v st)) st (fun v9 st => jn false v7 (fun j => binK .gtr v9 (u8 3) (fun v => (j) v st)) st (fun v10 st => pck v7 (.sc (.bool true)) v10 (fun v => (fun v11 st => K [v11] st) v st))))) v st))))) v st)) v st)) v st)) v st)
theorem h47x1 : RegOk [⟨(some (.r p1)), none, (.fa (nat_lit 0) (.t p1))⟩, ⟨(some (.l p2)), none, (.load1 (.t (.r p1)))⟩, ⟨(some (.r p2)), none, (.more (.conv .i64 (.t (.l p2))))⟩, ⟨(some (.l (.l p1))), none, (.bin .geq (.t (.r p2)) (.c (.sc (.int .i64 (.ofNat (nat_lit 9))))))⟩, ⟨(some (.r (.l p1))), none, (.move (.t (.l (.l p1))))⟩, ⟨(some (.l (.r p1))), (some ((.r (.l p1)), false)), (.fa (nat_lit 1) (.t p1))⟩, ⟨(some (.r (.r p1))), (some ((.r (.l p1)), false)), (.load1 (.t (.l (.r p1))))⟩, ⟨(some (.l (.l p2))), (some ((.r (.l p1)), false)), (.bin .gtr (.t (.r (.r p1))) (.c (.sc (.int .u8 (.ofNat (nat_lit 3))))))⟩, ⟨(some (.r (.l p2))), none, (.more (.pick (.t (.r (.l p1))) (.c (.sc (.bool true))) (.t (.l (.l p2)))))⟩, ⟨(some (.l (.r p2))), none, (.move (.t (.r (.l p2))))⟩, ⟨(some (.r (.r p2))), (some ((.l (.r p2)), false)), (.fa (nat_lit 2) (.t p1))⟩, ⟨(some (.l (.l (.l p1)))), (some ((.l (.r p2)), false)), (.load1 (.t (.r (.r p2))))⟩, ⟨(some (.r (.l (.l p1)))), (some ((.l (.r p2)), false)), (.bin .gtr (.t (.l (.l (.l p1)))) (.c (.sc (.int .u8 (.ofNat (nat_lit 3))))))⟩, ⟨(some (.l (.r (.l p1)))), none, (.more (.pick (.t (.l (.r p2))) (.c (.sc (.bool true))) (.t (.r (.l (.l p1))))))⟩] [(.l (.r (.l p1)))] r47x1 := by
  intro call ρ st K
  kernel_rfl
noncomputable def r47x2 : RF := fun call ρ st K => K [(.sc (.bool false))] st
theorem h47x2 : RegOk [⟨(some p2), none, (.move (.c (.sc (.bool false))))⟩] [p2] r47x2 := by
  intro call ρ st K
  kernel_rfl
noncomputable def r47x3 : RF := fun call ρ st K => fad (nat_lit 0) (ρ p1) (fun v => (fun v0 st => ld1 st v0 (fun v => (fun v1 st => ixA (nat_lit 9) (nat_lit 1) (.sc (.ptr (nat_lit 0) (nat_lit 0))) v1 (fun v => (fun v2 st => ld1 st v2 (fun v => (fun v3 st => K [v3] st) v st)) v st)) v st)) v st)
theorem h47x3 : RegOk [⟨(some (.r (.r (.l p1)))), none, (.fa (nat_lit 0) (.t p1))⟩, ⟨(some (.l (.l (.r p1)))), none, (.load1 (.t (.r (.r (.l p1)))))⟩, ⟨(some (.r (.l (.r p1)))), none, (.more (.idxA (nat_lit 9) (nat_lit 1) (.c (.sc (.ptr (nat_lit 0) (nat_lit 0)))) (.t (.l (.l (.r p1))))))⟩, ⟨(some (.l (.r (.r p1)))), none, (.load1 (.t (.r (.l (.r p1)))))⟩, ⟨(some (.l p1)), none, (.move (.t (.l (.r (.r p1)))))⟩] [(.l p1)] r47x3 := by
  intro call ρ st K
  kernel_rfl
noncomputable def r47x4 : RF := fun call ρ st K => binK .and (ρ (.l p1)) (u8 1) (fun v => (fun v0 st => binK .neq v0 (u8 0) (fun v => (fun v1 st => jn false v1 (fun j => fad (nat_lit 1) (ρ p1) (fun v => (j) v st)) st (fun v2 st => jn false v1 (fun j => ld1 st v2 (fun v => (j) v st)) st (fun v3 st => jn false v1 (fun j => binK .eql v3 (u8 0) (fun v => (j) v st)) st (fun v4 st => pck v1 (.sc (.bool true)) v4 (fun v => (fun v5 st => jn true v5 (fun j => (j) (ρ (.l p1)) st) st (fun v6 st => jn true v5 (fun j => binK .and v6 (u8 2) (fun v => (j) v st)) st (fun v7 st => jn true v5 (fun j => binK .neq v7 (u8 0) (fun v => (j) v st)) st (fun v8 st => jn true v5 (fun j => (j) v8 st) st (fun v9 st => jn false v9 (fun j => fad (nat_lit 2) (ρ p1) (fun v => (j) v st)) st (fun v10 st => jn false v9 (fun j => ld1 st v10 (fun v => (j) v st)) st (fun v11 st => jn false v9 (fun j => binK .eql v11 (u8 0) (fun v => (j) v st)) st (fun v12 st => jn true v5 (fun j => pck v9 (.sc (.bool true)) v12 (fun v => (j) v st)) st (fun v13 st => pck v5 v13 (.sc (.bool false)) (fun v => (fun v14 st => jn true v14 (fun j => (j) (ρ (.l p1)) st) st (fun v15 st => jn true v14 (fun j => binK .and v15 (u8 4) (fun v => (j) v st)) st (fun v16 st => jn true v14 (fun j => binK .neq v16 (u8 0) (fun v => (j) v st)) st (fun v17 st => jn true v14 (fun j => (j) v17 st) st (fun v18 st => jn false v18 (fun j => fad (nat_lit 3) (ρ p1) (fun v => (j) v st)) st (fun v19 st => jn false v18 (fun j => ld1 st v19 (fun v => (j) v st)) st (fun v20 st => jn false v18 (fun j => binK .eql v20 (u8 0) (fun v => (j) v st)) st (fun v21 st => jn true v14 (fun j => pck v18 (.sc (.bool true)) v21 (fun v => (j) v st)) st (fun v22 st => pck v14 v22 (.sc (.bool false)) (fun v => (fun v23 st => K [v23] st) v st)))))))))) v st)))))))))) v st))))) v st)) v st)
theorem h47x4 : RegOk [⟨(some (.r (.r (.r p1)))), none, (.move (.t (.l p1)))⟩, ⟨(some (.l (.l (.l p2)))), none, (.bin .and (.t (.r (.r (.r p1)))) (.c (.sc (.int .u8 (.ofNat (nat_lit 1))))))⟩, ⟨(some (.r (.l (.l p2)))), none, (.bin .neq (.t (.l (.l (.l p2)))) (.c (.sc (.int .u8 (.ofNat (nat_lit 0))))))⟩, ⟨(some (.l (.r (.l p2)))), none, (.move (.t (.r (.l (.l p2)))))⟩, ⟨(some (.r (.r (.l p2)))), (some ((.l (.r (.l p2))), false)), (.fa (nat_lit 1) (.t p1))⟩, ⟨(some (.l (.l (.r p2)))), (some ((.l (.r (.l p2))), false)), (.load1 (.t (.r (.r (.l p2)))))⟩, ⟨(some (.r (.l (.r p2)))), (some ((.l (.r (.l p2))), false)), (.bin .eql (.t (.l (.l (.r p2)))) (.c (.sc (.int .u8 (.ofNat (nat_lit 0))))))⟩, ⟨(some (.l (.r (.r p2)))), none, (.more (.pick (.t (.l (.r (.l p2)))) (.c (.sc (.bool true))) (.t (.r (.l (.r p2))))))⟩, ⟨(some (.r (.r (.r p2)))), none, (.move (.t (.l (.r (.r p2)))))⟩, ⟨(some (.l (.l (.l (.l p1))))), (some ((.r (.r (.r p2))), true)), (.move (.t (.l p1)))⟩, ⟨(some (.r (.l (.l (.l p1))))), (some ((.r (.r (.r p2))), true)), (.bin .and (.t (.l (.l (.l (.l p1))))) (.c (.sc (.int .u8 (.ofNat (nat_lit 2))))))⟩, ⟨(some (.l (.r (.l (.l p1))))), (some ((.r (.r (.r p2))), true)), (.bin .neq (.t (.r (.l (.l (.l p1))))) (.c (.sc (.int .u8 (.ofNat (nat_lit 0))))))⟩, ⟨(some (.r (.r (.l (.l p1))))), (some ((.r (.r (.r p2))), true)), (.move (.t (.l (.r (.l (.l p1))))))⟩, ⟨(some (.l (.l (.r (.l p1))))), (some ((.r (.r (.l (.l p1)))), false)), (.fa (nat_lit 2) (.t p1))⟩, ⟨(some (.r (.l (.r (.l p1))))), (some ((.r (.r (.l (.l p1)))), false)), (.load1 (.t (.l (.l (.r (.l p1))))))⟩, ⟨(some (.l (.r (.r (.l p1))))), (some ((.r (.r (.l (.l p1)))), false)), (.bin .eql (.t (.r (.l (.r (.l p1))))) (.c (.sc (.int .u8 (.ofNat (nat_lit 0))))))⟩, ⟨(some (.r (.r (.r (.l p1))))), (some ((.r (.r (.r p2))), true)), (.more (.pick (.t (.r (.r (.l (.l p1))))) (.c (.sc (.bool true))) (.t (.l (.r (.r (.l p1)))))))⟩, ⟨(some (.l (.l (.l (.r p1))))), none, (.more (.pick (.t (.r (.r (.r p2)))) (.t (.r (.r (.r (.l p1))))) (.c (.sc (.bool false)))))⟩, ⟨(some (.r (.l (.l (.r p1))))), none, (.move (.t (.l (.l (.l (.r p1))))))⟩, ⟨(some (.l (.r (.l (.r p1))))), (some ((.r (.l (.l (.r p1)))), true)), (.move (.t (.l p1)))⟩, ⟨(some (.r (.r (.l (.r p1))))), (some ((.r (.l (.l (.r p1)))), true)), (.bin .and (.t (.l (.r (.l (.r p1))))) (.c (.sc (.int .u8 (.ofNat (nat_lit 4))))))⟩, ⟨(some (.l (.l (.r (.r p1))))), (some ((.r (.l (.l (.r p1)))), true)), (.bin .neq (.t (.r (.r (.l (.r p1))))) (.c (.sc (.int .u8 (.ofNat (nat_lit 0))))))⟩, ⟨(some (.r (.l (.r (.r p1))))), (some ((.r (.l (.l (.r p1)))), true)), (.move (.t (.l (.l (.r (.r p1))))))⟩, ⟨(some (.l (.r (.r (.r p1))))), (some ((.r (.l (.r (.r p1)))), false)), (.fa (nat_lit 3) (.t p1))⟩, ⟨(some (.r (.r (.r (.r p1))))), (some ((.r (.l (.r (.r p1)))), false)), (.load1 (.t (.l (.r (.r (.r p1))))))⟩, ⟨(some (.l (.l (.l (.l p2))))), (some ((.r (.l (.r (.r p1)))), false)), (.bin .eql (.t (.r (.r (.r (.r p1))))) (.c (.sc (.int .u8 (.ofNat (nat_lit 0))))))⟩, ⟨(some (.r (.l (.l (.l p2))))), (some ((.r (.l (.l (.r p1)))), true)), (.more (.pick (.t (.r (.l (.r (.r p1))))) (.c (.sc (.bool true))) (.t (.l (.l (.l (.l p2)))))))⟩, ⟨(some (.l (.r (.l (.l p2))))), none, (.more (.pick (.t (.r (.l (.l (.r p1))))) (.t (.r (.l (.l (.l p2))))) (.c (.sc (.bool false)))))⟩, ⟨(some p2), none, (.move (.t (.l (.r (.l (.l p2))))))⟩] [p2] r47x4 := by
  intro call ρ st K
  kernel_rfl
/- attestor/isa.fits -/
noncomputable def cf47 : HF := ⟨(.seq (.reg _ _ _ h47x0)
 (.seq (.seq (.reg _ _ _ h47x1)
 (.cond (.t (.l (.r (.l p1)))) (.seq (.reg _ _ _ h47x2)
 .ret)
 .skip))
 (.seq (.reg _ _ _ h47x3)
 (.seq (.reg _ _ _ h47x4)
 .ret)))), [(.tmp p2)], [p0], [(.r p1), (.l p2), (.r p2), (.l (.l p1)), (.r (.l p1)), (.l (.r p1)), (.r (.r p1)), (.l (.l p2)), (.r (.l p2)), (.l (.r p2)), (.r (.r p2)), (.l (.l (.l p1))), (.r (.l (.l p1))), (.r (.r (.l p1))), (.l (.l (.r p1))), (.r (.l (.r p1))), (.l (.r (.r p1))), (.r (.r (.r p1))), (.l (.l (.l p2))), (.r (.l (.l p2))), (.l (.r (.l p2))), (.r (.r (.l p2))), (.l (.l (.r p2))), (.r (.l (.r p2))), (.l (.r (.r p2))), (.r (.r (.r p2))), (.l (.l (.l (.l p1)))), (.r (.l (.l (.l p1)))), (.l (.r (.l (.l p1)))), (.r (.r (.l (.l p1)))), (.l (.l (.r (.l p1)))), (.r (.l (.r (.l p1)))), (.l (.r (.r (.l p1)))), (.r (.r (.r (.l p1)))), (.l (.l (.l (.r p1)))), (.r (.l (.l (.r p1)))), (.l (.r (.l (.r p1)))), (.r (.r (.l (.r p1)))), (.l (.l (.r (.r p1)))), (.r (.l (.r (.r p1)))), (.l (.r (.r (.r p1)))), (.r (.r (.r (.r p1)))), (.l (.l (.l (.l p2)))), (.r (.l (.l (.l p2)))), (.l (.r (.l (.l p2))))]⟩
end Go.Proofs.YtffaehgicojjmaaDoor.Ev
