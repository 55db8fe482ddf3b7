/- Compiled functions of the translated program, and that each is what the compiler makes of it; no conditions. -/
import Derived.Test.YtffaehgicojjmaaDoorEvC
import Derived.KernelRfl
namespace Go.Proofs.YtffaehgicojjmaaDoor.Ev
set_option maxRecDepth 100000
set_option linter.unusedVariables false
noncomputable def r45x0 : RF := fun call ρ st K => call (nat_lit 62) [(u6 1)] st (fun v0 st => K [v0] st)
theorem h45x0 : RegOk [⟨(some (.l (.l p1))), none, (.call (nat_lit 62) [(.c (.sc (.int .u64 (.ofNat (nat_lit 1)))))])⟩, ⟨(some p2), none, (.move (.t (.l (.l p1))))⟩] [p2] r45x0 := by
  intro call ρ st K
  kernel_rfl
noncomputable def r45x1 : RF := fun call ρ st K => K [(i6 0)] st
theorem h45x1 : RegOk [⟨(some (.r (.l p1))), none, (.move (.c (.sc (.int .i64 (.ofNat (nat_lit 0))))))⟩] [(.r (.l p1))] r45x1 := by
  intro call ρ st K
  kernel_rfl
noncomputable def r45x2 : RF := fun call ρ st K => binK .lss (ρ (.r (.l p1))) (i6 4) (fun v => (fun v0 st => K [v0] st) v st)
theorem h45x2 : RegOk [⟨(some (.l (.r p1))), none, (.bin .lss (.t (.r (.l p1))) (.c (.sc (.int .i64 (.ofNat (nat_lit 4))))))⟩] [(.l (.r p1))] r45x2 := by
  intro call ρ st K
  kernel_rfl
noncomputable def r45x3 : RF := fun call ρ st K => K [(ρ (.r (.l p1)))] st
theorem h45x3 : RegOk [⟨(some (.r (.r p1))), none, (.move (.t (.r (.l p1))))⟩, ⟨(some (.l p1)), none, (.move (.t (.r (.r p1))))⟩] [(.l p1)] r45x3 := by
  intro call ρ st K
  kernel_rfl
noncomputable def r45x4 : RF := fun call ρ st K => binK .add (i6 1) (ρ (.l p1)) (fun v => (fun v0 st => call (nat_lit 63) [v0] st (fun v1 st => binK .add (i6 1) (ρ (.l p1)) (fun v => (fun v2 st => call (nat_lit 38) [v2] st (fun v3 st => binK .add (i6 13) (ρ (.l p1)) (fun v => (fun v4 st => call (nat_lit 38) [v4] st (fun v5 st => call (nat_lit 38) [(i6 25)] st (fun v6 st => binK .add (i6 1) (ρ (.l p1)) (fun v => (fun v7 st => call (nat_lit 38) [v7] st (fun v8 st => h_op3_buildS (nat_lit 1) (nat_lit 1) [.nils] [((nat_lit 0), (nat_lit 1), (.c v8))] call ρ st (fun v9 st => call (nat_lit 39) [v6, v9] st (fun v10 st => h_op3_buildS (nat_lit 2) (nat_lit 1) [.nils, .nils] [((nat_lit 0), (nat_lit 1), (.c v5)), ((nat_lit 1), (nat_lit 1), (.c v10))] call ρ st (fun v11 st => call (nat_lit 58) [v11] st (fun v12 st => h_op3_buildS (nat_lit 2) (nat_lit 1) [.nils, .nils] [((nat_lit 0), (nat_lit 1), (.c v3)), ((nat_lit 1), (nat_lit 1), (.c v12))] call ρ st (fun v13 st => call (nat_lit 39) [v1, v13] st (fun v14 st => h_op3_buildS (nat_lit 1) (nat_lit 1) [.nils] [((nat_lit 0), (nat_lit 1), (.c v14))] call ρ st (fun v15 st => call (nat_lit 37) [(ρ p0), (u8 2), v15] st (fun v16 st => K [] st)))))))))) v st)))) v st))) v st))) v st)
theorem h45x4 : RegOk [⟨(some (.l (.l p2))), none, (.move (.t p0))⟩, ⟨(some (.r (.l p2))), none, (.move (.t (.l p1)))⟩, ⟨(some (.l (.r p2))), none, (.bin .add (.c (.sc (.int .i64 (.ofNat (nat_lit 1))))) (.t (.r (.l p2))))⟩, ⟨(some (.r (.r p2))), none, (.call (nat_lit 63) [(.t (.l (.r p2)))])⟩, ⟨(some (.l (.l (.l p1)))), none, (.move (.t (.l p1)))⟩, ⟨(some (.r (.l (.l p1)))), none, (.bin .add (.c (.sc (.int .i64 (.ofNat (nat_lit 1))))) (.t (.l (.l (.l p1)))))⟩, ⟨(some (.l (.r (.l p1)))), none, (.call (nat_lit 38) [(.t (.r (.l (.l p1))))])⟩, ⟨(some (.r (.r (.l p1)))), none, (.move (.t (.l p1)))⟩, ⟨(some (.l (.l (.r p1)))), none, (.bin .add (.c (.sc (.int .i64 (.ofNat (nat_lit 13))))) (.t (.r (.r (.l p1)))))⟩, ⟨(some (.r (.l (.r p1)))), none, (.call (nat_lit 38) [(.t (.l (.l (.r p1))))])⟩, ⟨(some (.l (.r (.r p1)))), none, (.call (nat_lit 38) [(.c (.sc (.int .i64 (.ofNat (nat_lit 25)))))])⟩, ⟨(some (.r (.r (.r p1)))), none, (.move (.t (.l p1)))⟩, ⟨(some (.l (.l (.l p2)))), none, (.bin .add (.c (.sc (.int .i64 (.ofNat (nat_lit 1))))) (.t (.r (.r (.r p1)))))⟩, ⟨(some (.r (.l (.l p2)))), none, (.call (nat_lit 38) [(.t (.l (.l (.l p2))))])⟩, ⟨(some (.l (.r (.l p2)))), none, (.more (.more (.buildS (nat_lit 1) (nat_lit 1) [.nils] [((nat_lit 0), (nat_lit 1), (.t (.r (.l (.l p2)))))])))⟩, ⟨(some (.r (.r (.l p2)))), none, (.call (nat_lit 39) [(.t (.l (.r (.r p1)))), (.t (.l (.r (.l p2))))])⟩, ⟨(some (.l (.l (.r p2)))), none, (.more (.more (.buildS (nat_lit 2) (nat_lit 1) [.nils, .nils] [((nat_lit 0), (nat_lit 1), (.t (.r (.l (.r p1))))), ((nat_lit 1), (nat_lit 1), (.t (.r (.r (.l p2)))))])))⟩, ⟨(some (.r (.l (.r p2)))), none, (.call (nat_lit 58) [(.t (.l (.l (.r p2))))])⟩, ⟨(some (.l (.r (.r p2)))), none, (.more (.more (.buildS (nat_lit 2) (nat_lit 1) [.nils, .nils] [((nat_lit 0), (nat_lit 1), (.t (.l (.r (.l p1))))), ((nat_lit 1), (nat_lit 1), (.t (.r (.l (.r p2)))))])))⟩, ⟨(some (.r (.r (.r p2)))), none, (.call (nat_lit 39) [(.t (.r (.r p2))), (.t (.l (.r (.r p2))))])⟩, ⟨(some (.l (.l (.l (.l p1))))), none, (.more (.more (.buildS (nat_lit 1) (nat_lit 1) [.nils] [((nat_lit 0), (nat_lit 1), (.t (.r (.r (.r p2)))))])))⟩, ⟨(some (.r (.l (.l (.l p1))))), none, (.call (nat_lit 37) [(.t (.l (.l p2))), (.c (.sc (.int .u8 (.ofNat (nat_lit 2))))), (.t (.l (.l (.l (.l p1)))))])⟩] [] r45x4 := by
  intro call ρ st K
  kernel_rfl
noncomputable def r45x5 : RF := fun call ρ st K => binK .add (ρ (.r (.l p1))) (i6 1) (fun v => (fun v0 st => K [v0] st) v st)
theorem h45x5 : RegOk [⟨(some (.l (.r (.l (.l p1))))), none, (.bin .add (.t (.r (.l p1))) (.c (.sc (.int .i64 (.ofNat (nat_lit 1))))))⟩, ⟨(some (.r (.l p1))), none, (.move (.t (.l (.r (.l (.l p1))))))⟩] [(.r (.l p1))] r45x5 := by
  intro call ρ st K
  kernel_rfl
noncomputable def r45x6 : RF := fun call ρ st K => call (nat_lit 38) [(i6 31)] st (fun v0 st => call (nat_lit 38) [(i6 22)] st (fun v1 st => call (nat_lit 38) [(i6 0)] st (fun v2 st => h_op3_buildS (nat_lit 2) (nat_lit 1) [.nils, .nils] [((nat_lit 0), (nat_lit 1), (.c v2)), ((nat_lit 1), (nat_lit 1), (.c (ρ p2)))] call ρ st (fun v3 st => call (nat_lit 39) [v1, v3] st (fun v4 st => h_op3_buildS (nat_lit 2) (nat_lit 1) [.nils, .nils] [((nat_lit 0), (nat_lit 1), (.c v0)), ((nat_lit 1), (nat_lit 1), (.c v4))] call ρ st (fun v5 st => call (nat_lit 58) [v5] st (fun v6 st => K [v6] st)))))))
theorem h45x6 : RegOk [⟨(some (.r (.r (.l (.l p1))))), none, (.call (nat_lit 38) [(.c (.sc (.int .i64 (.ofNat (nat_lit 31)))))])⟩, ⟨(some (.l (.l (.r (.l p1))))), none, (.call (nat_lit 38) [(.c (.sc (.int .i64 (.ofNat (nat_lit 22)))))])⟩, ⟨(some (.r (.l (.r (.l p1))))), none, (.call (nat_lit 38) [(.c (.sc (.int .i64 (.ofNat (nat_lit 0)))))])⟩, ⟨(some (.l (.r (.r (.l p1))))), none, (.move (.t p2))⟩, ⟨(some (.r (.r (.r (.l p1))))), none, (.more (.more (.buildS (nat_lit 2) (nat_lit 1) [.nils, .nils] [((nat_lit 0), (nat_lit 1), (.t (.r (.l (.r (.l p1)))))), ((nat_lit 1), (nat_lit 1), (.t (.l (.r (.r (.l p1))))))])))⟩, ⟨(some (.l (.l (.l (.r p1))))), none, (.call (nat_lit 39) [(.t (.l (.l (.r (.l p1))))), (.t (.r (.r (.r (.l p1)))))])⟩, ⟨(some (.r (.l (.l (.r p1))))), none, (.more (.more (.buildS (nat_lit 2) (nat_lit 1) [.nils, .nils] [((nat_lit 0), (nat_lit 1), (.t (.r (.r (.l (.l p1)))))), ((nat_lit 1), (nat_lit 1), (.t (.l (.l (.l (.r p1))))))])))⟩, ⟨(some (.l (.r (.l (.r p1))))), none, (.call (nat_lit 58) [(.t (.r (.l (.l (.r p1)))))])⟩, ⟨(some (.r p1)), none, (.move (.t (.l (.r (.l (.r p1))))))⟩] [(.r p1)] r45x6 := by
  intro call ρ st K
  kernel_rfl
noncomputable def r45x7 : RF := fun call ρ st K => call (nat_lit 38) [(i6 39)] st (fun v0 st => h_op3_buildS (nat_lit 1) (nat_lit 1) [.nils] [((nat_lit 0), (nat_lit 1), (.c v0))] call ρ st (fun v1 st => call (nat_lit 39) [(ρ p2), v1] st (fun v2 st => K [v2] st)))
theorem h45x7 : RegOk [⟨(some (.r (.r (.l (.r p1))))), none, (.move (.t p2))⟩, ⟨(some (.l (.l (.r (.r p1))))), none, (.call (nat_lit 38) [(.c (.sc (.int .i64 (.ofNat (nat_lit 39)))))])⟩, ⟨(some (.r (.l (.r (.r p1))))), none, (.more (.more (.buildS (nat_lit 1) (nat_lit 1) [.nils] [((nat_lit 0), (nat_lit 1), (.t (.l (.l (.r (.r p1))))))])))⟩, ⟨(some (.l (.r (.r (.r p1))))), none, (.call (nat_lit 39) [(.t (.r (.r (.l (.r p1))))), (.t (.r (.l (.r (.r p1)))))])⟩, ⟨(some (.l p2)), none, (.move (.t (.l (.r (.r (.r p1))))))⟩] [(.l p2)] r45x7 := by
  intro call ρ st K
  kernel_rfl
noncomputable def r45x8 : RF := fun call ρ st K => call (nat_lit 63) [(i6 38)] st (fun v0 st => h_op3_buildS (nat_lit 1) (nat_lit 1) [.nils] [((nat_lit 0), (nat_lit 1), (.c v0))] call ρ st (fun v1 st => call (nat_lit 39) [(ρ p2), v1] st (fun v2 st => K [v2] st)))
theorem h45x8 : RegOk [⟨(some (.r (.r (.r (.r p1))))), none, (.move (.t p2))⟩, ⟨(some (.l (.l (.l (.l p2))))), none, (.call (nat_lit 63) [(.c (.sc (.int .i64 (.ofNat (nat_lit 38)))))])⟩, ⟨(some (.r (.l (.l (.l p2))))), none, (.more (.more (.buildS (nat_lit 1) (nat_lit 1) [.nils] [((nat_lit 0), (nat_lit 1), (.t (.l (.l (.l (.l p2))))))])))⟩, ⟨(some (.l (.r (.l (.l p2))))), none, (.call (nat_lit 39) [(.t (.r (.r (.r (.r p1))))), (.t (.r (.l (.l (.l p2)))))])⟩, ⟨(some (.r p2)), none, (.move (.t (.l (.r (.l (.l p2))))))⟩] [(.r p2)] r45x8 := by
  intro call ρ st K
  kernel_rfl
noncomputable def r45x9 : RF := fun call ρ st K => call (nat_lit 63) [(i6 0)] st (fun v0 st => call (nat_lit 38) [(i6 0)] st (fun v1 st => call (nat_lit 41) [(i6 5), (i6 8)] st (fun v2 st => h_op3_buildS (nat_lit 3) (nat_lit 1) [.nils, .nils, .nils] [((nat_lit 0), (nat_lit 1), (.c v1)), ((nat_lit 1), (nat_lit 1), (.c v2)), ((nat_lit 2), (nat_lit 1), (.c (ρ (.r p1))))] call ρ st (fun v3 st => call (nat_lit 39) [v0, v3] st (fun v4 st => call (nat_lit 38) [(i6 39)] st (fun v5 st => call (nat_lit 63) [(i6 35)] st (fun v6 st => call (nat_lit 38) [(i6 35)] st (fun v7 st => h_op3_buildS (nat_lit 1) (nat_lit 1) [.nils] [((nat_lit 0), (nat_lit 1), (.c v7))] call ρ st (fun v8 st => call (nat_lit 39) [v6, v8] st (fun v9 st => h_op3_buildS (nat_lit 2) (nat_lit 1) [.nils, .nils] [((nat_lit 0), (nat_lit 1), (.c v5)), ((nat_lit 1), (nat_lit 1), (.c v9))] call ρ st (fun v10 st => call (nat_lit 58) [v10] st (fun v11 st => call (nat_lit 38) [(i6 40)] st (fun v12 st => call (nat_lit 38) [(i6 39)] st (fun v13 st => call (nat_lit 63) [(i6 36)] st (fun v14 st => call (nat_lit 38) [(i6 36)] st (fun v15 st => h_op3_buildS (nat_lit 2) (nat_lit 1) [.nils, .nils] [((nat_lit 0), (nat_lit 1), (.c v15)), ((nat_lit 1), (nat_lit 1), (.c (ρ p2)))] call ρ st (fun v16 st => call (nat_lit 39) [v14, v16] st (fun v17 st => h_op3_buildS (nat_lit 2) (nat_lit 1) [.nils, .nils] [((nat_lit 0), (nat_lit 1), (.c v13)), ((nat_lit 1), (nat_lit 1), (.c v17))] call ρ st (fun v18 st => call (nat_lit 58) [v18] st (fun v19 st => call (nat_lit 63) [(i6 35)] st (fun v20 st => call (nat_lit 38) [(i6 35)] st (fun v21 st => h_op3_buildS (nat_lit 2) (nat_lit 1) [.nils, .nils] [((nat_lit 0), (nat_lit 1), (.c v21)), ((nat_lit 1), (nat_lit 1), (.c (ρ p2)))] call ρ st (fun v22 st => call (nat_lit 39) [v20, v22] st (fun v23 st => h_op3_buildS (nat_lit 2) (nat_lit 1) [.nils, .nils] [((nat_lit 0), (nat_lit 1), (.c (ρ (.l p2)))), ((nat_lit 1), (nat_lit 1), (.c v23))] call ρ st (fun v24 st => call (nat_lit 58) [v24] st (fun v25 st => h_op3_buildS (nat_lit 2) (nat_lit 1) [.nils, .nils] [((nat_lit 0), (nat_lit 1), (.c v19)), ((nat_lit 1), (nat_lit 1), (.c v25))] call ρ st (fun v26 st => call (nat_lit 39) [v12, v26] st (fun v27 st => call (nat_lit 38) [(i6 39)] st (fun v28 st => call (nat_lit 63) [(i6 37)] st (fun v29 st => call (nat_lit 38) [(i6 37)] st (fun v30 st => h_op3_buildS (nat_lit 1) (nat_lit 1) [.nils] [((nat_lit 0), (nat_lit 1), (.c v30))] call ρ st (fun v31 st => call (nat_lit 39) [v29, v31] st (fun v32 st => h_op3_buildS (nat_lit 3) (nat_lit 1) [.nils, .nils, .nils] [((nat_lit 0), (nat_lit 1), (.c v28)), ((nat_lit 1), (nat_lit 1), (.c (ρ (.r p2)))), ((nat_lit 2), (nat_lit 1), (.c v32))] call ρ st (fun v33 st => call (nat_lit 58) [v33] st (fun v34 st => call (nat_lit 63) [(i6 37)] st (fun v35 st => h_op3_buildS (nat_lit 3) (nat_lit 1) [.nils, .nils, .nils] [((nat_lit 0), (nat_lit 1), (.c (ρ (.l p2)))), ((nat_lit 1), (nat_lit 1), (.c (ρ (.r p2)))), ((nat_lit 2), (nat_lit 1), (.c v35))] call ρ st (fun v36 st => call (nat_lit 58) [v36] st (fun v37 st => h_op3_buildS (nat_lit 5) (nat_lit 1) [.nils, .nils, .nils, .nils, .nils] [((nat_lit 0), (nat_lit 1), (.c v4)), ((nat_lit 1), (nat_lit 1), (.c v11)), ((nat_lit 2), (nat_lit 1), (.c v27)), ((nat_lit 3), (nat_lit 1), (.c v34)), ((nat_lit 4), (nat_lit 1), (.c v37))] call ρ st (fun v38 st => call (nat_lit 37) [(ρ p0), (u8 2), v38] st (fun v39 st => K [] st))))))))))))))))))))))))))))))))))))))))
theorem h45x9 : RegOk [⟨(some (.r (.r (.l (.l p2))))), none, (.move (.t p0))⟩, ⟨(some (.l (.l (.r (.l p2))))), none, (.call (nat_lit 63) [(.c (.sc (.int .i64 (.ofNat (nat_lit 0)))))])⟩, ⟨(some (.r (.l (.r (.l p2))))), none, (.call (nat_lit 38) [(.c (.sc (.int .i64 (.ofNat (nat_lit 0)))))])⟩, ⟨(some (.l (.r (.r (.l p2))))), none, (.call (nat_lit 41) [(.c (.sc (.int .i64 (.ofNat (nat_lit 5))))), (.c (.sc (.int .i64 (.ofNat (nat_lit 8)))))])⟩, ⟨(some (.r (.r (.r (.l p2))))), none, (.move (.t (.r p1)))⟩, ⟨(some (.l (.l (.l (.r p2))))), none, (.more (.more (.buildS (nat_lit 3) (nat_lit 1) [.nils, .nils, .nils] [((nat_lit 0), (nat_lit 1), (.t (.r (.l (.r (.l p2)))))), ((nat_lit 1), (nat_lit 1), (.t (.l (.r (.r (.l p2)))))), ((nat_lit 2), (nat_lit 1), (.t (.r (.r (.r (.l p2))))))])))⟩, ⟨(some (.r (.l (.l (.r p2))))), none, (.call (nat_lit 39) [(.t (.l (.l (.r (.l p2))))), (.t (.l (.l (.l (.r p2)))))])⟩, ⟨(some (.l (.r (.l (.r p2))))), none, (.call (nat_lit 38) [(.c (.sc (.int .i64 (.ofNat (nat_lit 39)))))])⟩, ⟨(some (.r (.r (.l (.r p2))))), none, (.call (nat_lit 63) [(.c (.sc (.int .i64 (.ofNat (nat_lit 35)))))])⟩, ⟨(some (.l (.l (.r (.r p2))))), none, (.call (nat_lit 38) [(.c (.sc (.int .i64 (.ofNat (nat_lit 35)))))])⟩, ⟨(some (.r (.l (.r (.r p2))))), none, (.more (.more (.buildS (nat_lit 1) (nat_lit 1) [.nils] [((nat_lit 0), (nat_lit 1), (.t (.l (.l (.r (.r p2))))))])))⟩, ⟨(some (.l (.r (.r (.r p2))))), none, (.call (nat_lit 39) [(.t (.r (.r (.l (.r p2))))), (.t (.r (.l (.r (.r p2)))))])⟩, ⟨(some (.r (.r (.r (.r p2))))), none, (.more (.more (.buildS (nat_lit 2) (nat_lit 1) [.nils, .nils] [((nat_lit 0), (nat_lit 1), (.t (.l (.r (.l (.r p2)))))), ((nat_lit 1), (nat_lit 1), (.t (.l (.r (.r (.r p2))))))])))⟩, ⟨(some (.l (.l (.l (.l (.l p1)))))), none, (.call (nat_lit 58) [(.t (.r (.r (.r (.r p2)))))])⟩, ⟨(some (.r (.l (.l (.l (.l p1)))))), none, (.call (nat_lit 38) [(.c (.sc (.int .i64 (.ofNat (nat_lit 40)))))])⟩, ⟨(some (.l (.r (.l (.l (.l p1)))))), none, (.call (nat_lit 38) [(.c (.sc (.int .i64 (.ofNat (nat_lit 39)))))])⟩, ⟨(some (.r (.r (.l (.l (.l p1)))))), none, (.call (nat_lit 63) [(.c (.sc (.int .i64 (.ofNat (nat_lit 36)))))])⟩, ⟨(some (.l (.l (.r (.l (.l p1)))))), none, (.call (nat_lit 38) [(.c (.sc (.int .i64 (.ofNat (nat_lit 36)))))])⟩, ⟨(some (.r (.l (.r (.l (.l p1)))))), none, (.move (.t p2))⟩, ⟨(some (.l (.r (.r (.l (.l p1)))))), none, (.more (.more (.buildS (nat_lit 2) (nat_lit 1) [.nils, .nils] [((nat_lit 0), (nat_lit 1), (.t (.l (.l (.r (.l (.l p1))))))), ((nat_lit 1), (nat_lit 1), (.t (.r (.l (.r (.l (.l p1)))))))])))⟩, ⟨(some (.r (.r (.r (.l (.l p1)))))), none, (.call (nat_lit 39) [(.t (.r (.r (.l (.l (.l p1)))))), (.t (.l (.r (.r (.l (.l p1))))))])⟩, ⟨(some (.l (.l (.l (.r (.l p1)))))), none, (.more (.more (.buildS (nat_lit 2) (nat_lit 1) [.nils, .nils] [((nat_lit 0), (nat_lit 1), (.t (.l (.r (.l (.l (.l p1))))))), ((nat_lit 1), (nat_lit 1), (.t (.r (.r (.r (.l (.l p1)))))))])))⟩, ⟨(some (.r (.l (.l (.r (.l p1)))))), none, (.call (nat_lit 58) [(.t (.l (.l (.l (.r (.l p1))))))])⟩, ⟨(some (.l (.r (.l (.r (.l p1)))))), none, (.move (.t (.l p2)))⟩, ⟨(some (.r (.r (.l (.r (.l p1)))))), none, (.call (nat_lit 63) [(.c (.sc (.int .i64 (.ofNat (nat_lit 35)))))])⟩, ⟨(some (.l (.l (.r (.r (.l p1)))))), none, (.call (nat_lit 38) [(.c (.sc (.int .i64 (.ofNat (nat_lit 35)))))])⟩, ⟨(some (.r (.l (.r (.r (.l p1)))))), none, (.move (.t p2))⟩, ⟨(some (.l (.r (.r (.r (.l p1)))))), none, (.more (.more (.buildS (nat_lit 2) (nat_lit 1) [.nils, .nils] [((nat_lit 0), (nat_lit 1), (.t (.l (.l (.r (.r (.l p1))))))), ((nat_lit 1), (nat_lit 1), (.t (.r (.l (.r (.r (.l p1)))))))])))⟩, ⟨(some (.r (.r (.r (.r (.l p1)))))), none, (.call (nat_lit 39) [(.t (.r (.r (.l (.r (.l p1)))))), (.t (.l (.r (.r (.r (.l p1))))))])⟩, ⟨(some (.l (.l (.l (.l (.r p1)))))), none, (.more (.more (.buildS (nat_lit 2) (nat_lit 1) [.nils, .nils] [((nat_lit 0), (nat_lit 1), (.t (.l (.r (.l (.r (.l p1))))))), ((nat_lit 1), (nat_lit 1), (.t (.r (.r (.r (.r (.l p1)))))))])))⟩, ⟨(some (.r (.l (.l (.l (.r p1)))))), none, (.call (nat_lit 58) [(.t (.l (.l (.l (.l (.r p1))))))])⟩, ⟨(some (.l (.r (.l (.l (.r p1)))))), none, (.more (.more (.buildS (nat_lit 2) (nat_lit 1) [.nils, .nils] [((nat_lit 0), (nat_lit 1), (.t (.r (.l (.l (.r (.l p1))))))), ((nat_lit 1), (nat_lit 1), (.t (.r (.l (.l (.l (.r p1)))))))])))⟩, ⟨(some (.r (.r (.l (.l (.r p1)))))), none, (.call (nat_lit 39) [(.t (.r (.l (.l (.l (.l p1)))))), (.t (.l (.r (.l (.l (.r p1))))))])⟩, ⟨(some (.l (.l (.r (.l (.r p1)))))), none, (.call (nat_lit 38) [(.c (.sc (.int .i64 (.ofNat (nat_lit 39)))))])⟩, ⟨(some (.r (.l (.r (.l (.r p1)))))), none, (.move (.t (.r p2)))⟩, ⟨(some (.l (.r (.r (.l (.r p1)))))), none, (.call (nat_lit 63) [(.c (.sc (.int .i64 (.ofNat (nat_lit 37)))))])⟩, ⟨(some (.r (.r (.r (.l (.r p1)))))), none, (.call (nat_lit 38) [(.c (.sc (.int .i64 (.ofNat (nat_lit 37)))))])⟩, ⟨(some (.l (.l (.l (.r (.r p1)))))), none, (.more (.more (.buildS (nat_lit 1) (nat_lit 1) [.nils] [((nat_lit 0), (nat_lit 1), (.t (.r (.r (.r (.l (.r p1)))))))])))⟩, ⟨(some (.r (.l (.l (.r (.r p1)))))), none, (.call (nat_lit 39) [(.t (.l (.r (.r (.l (.r p1)))))), (.t (.l (.l (.l (.r (.r p1))))))])⟩, ⟨(some (.l (.r (.l (.r (.r p1)))))), none, (.more (.more (.buildS (nat_lit 3) (nat_lit 1) [.nils, .nils, .nils] [((nat_lit 0), (nat_lit 1), (.t (.l (.l (.r (.l (.r p1))))))), ((nat_lit 1), (nat_lit 1), (.t (.r (.l (.r (.l (.r p1))))))), ((nat_lit 2), (nat_lit 1), (.t (.r (.l (.l (.r (.r p1)))))))])))⟩, ⟨(some (.r (.r (.l (.r (.r p1)))))), none, (.call (nat_lit 58) [(.t (.l (.r (.l (.r (.r p1))))))])⟩, ⟨(some (.l (.l (.r (.r (.r p1)))))), none, (.move (.t (.l p2)))⟩, ⟨(some (.r (.l (.r (.r (.r p1)))))), none, (.move (.t (.r p2)))⟩, ⟨(some (.l (.r (.r (.r (.r p1)))))), none, (.call (nat_lit 63) [(.c (.sc (.int .i64 (.ofNat (nat_lit 37)))))])⟩, ⟨(some (.r (.r (.r (.r (.r p1)))))), none, (.more (.more (.buildS (nat_lit 3) (nat_lit 1) [.nils, .nils, .nils] [((nat_lit 0), (nat_lit 1), (.t (.l (.l (.r (.r (.r p1))))))), ((nat_lit 1), (nat_lit 1), (.t (.r (.l (.r (.r (.r p1))))))), ((nat_lit 2), (nat_lit 1), (.t (.l (.r (.r (.r (.r p1)))))))])))⟩, ⟨(some (.l (.l (.l (.l (.l p2)))))), none, (.call (nat_lit 58) [(.t (.r (.r (.r (.r (.r p1))))))])⟩, ⟨(some (.r (.l (.l (.l (.l p2)))))), none, (.more (.more (.buildS (nat_lit 5) (nat_lit 1) [.nils, .nils, .nils, .nils, .nils] [((nat_lit 0), (nat_lit 1), (.t (.r (.l (.l (.r p2)))))), ((nat_lit 1), (nat_lit 1), (.t (.l (.l (.l (.l (.l p1))))))), ((nat_lit 2), (nat_lit 1), (.t (.r (.r (.l (.l (.r p1))))))), ((nat_lit 3), (nat_lit 1), (.t (.r (.r (.l (.r (.r p1))))))), ((nat_lit 4), (nat_lit 1), (.t (.l (.l (.l (.l (.l p2)))))))])))⟩, ⟨(some (.l (.r (.l (.l (.l p2)))))), none, (.call (nat_lit 37) [(.t (.r (.r (.l (.l p2))))), (.c (.sc (.int .u8 (.ofNat (nat_lit 2))))), (.t (.r (.l (.l (.l (.l p2))))))])⟩] [] r45x9 := by
  intro call ρ st K
  kernel_rfl
/- (*attestor/trace.list).steps -/
noncomputable def cf45 : HF := ⟨(.seq (.reg _ _ _ h45x0)
 (.seq (.seq (.reg _ _ _ h45x1)
 (.block (nat_lit 0) (.loop (.seq (.reg _ _ _ h45x2)
 (.seq (.cond (.t (.l (.r p1))) .skip
 (.exit (nat_lit 0)))
 (.seq (.block (nat_lit 1) (.seq (.reg _ _ _ h45x3)
 (.reg _ _ _ h45x4)))
 (.reg _ _ _ h45x5)))))))
 (.seq (.reg _ _ _ h45x6)
 (.seq (.reg _ _ _ h45x7)
 (.seq (.reg _ _ _ h45x8)
 (.reg _ _ _ h45x9)))))), [], [p0], [(.l (.l p1)), (.r (.r p1)), (.l (.l p2)), (.r (.l p2)), (.l (.r p2)), (.r (.r p2)), (.l (.l (.l p1))), (.r (.l (.l p1))), (.l (.r (.l p1))), (.r (.r (.l p1))), (.l (.l (.r p1))), (.r (.l (.r p1))), (.l (.r (.r p1))), (.r (.r (.r p1))), (.l (.l (.l p2))), (.r (.l (.l p2))), (.l (.r (.l p2))), (.r (.r (.l p2))), (.l (.l (.r p2))), (.r (.l (.r p2))), (.l (.r (.r p2))), (.r (.r (.r p2))), (.l (.l (.l (.l p1)))), (.r (.l (.l (.l p1)))), (.l (.r (.l (.l p1)))), (.r (.r (.l (.l p1)))), (.l (.l (.r (.l p1)))), (.r (.l (.r (.l p1)))), (.l (.r (.r (.l p1)))), (.r (.r (.r (.l p1)))), (.l (.l (.l (.r p1)))), (.r (.l (.l (.r p1)))), (.l (.r (.l (.r p1)))), (.r (.r (.l (.r p1)))), (.l (.l (.r (.r p1)))), (.r (.l (.r (.r p1)))), (.l (.r (.r (.r p1)))), (.r (.r (.r (.r p1)))), (.l (.l (.l (.l p2)))), (.r (.l (.l (.l p2)))), (.l (.r (.l (.l p2)))), (.r (.r (.l (.l p2)))), (.l (.l (.r (.l p2)))), (.r (.l (.r (.l p2)))), (.l (.r (.r (.l p2)))), (.r (.r (.r (.l p2)))), (.l (.l (.l (.r p2)))), (.r (.l (.l (.r p2)))), (.l (.r (.l (.r p2)))), (.r (.r (.l (.r p2)))), (.l (.l (.r (.r p2)))), (.r (.l (.r (.r p2)))), (.l (.r (.r (.r p2)))), (.r (.r (.r (.r p2)))), (.l (.l (.l (.l (.l p1))))), (.r (.l (.l (.l (.l p1))))), (.l (.r (.l (.l (.l p1))))), (.r (.r (.l (.l (.l p1))))), (.l (.l (.r (.l (.l p1))))), (.r (.l (.r (.l (.l p1))))), (.l (.r (.r (.l (.l p1))))), (.r (.r (.r (.l (.l p1))))), (.l (.l (.l (.r (.l p1))))), (.r (.l (.l (.r (.l p1))))), (.l (.r (.l (.r (.l p1))))), (.r (.r (.l (.r (.l p1))))), (.l (.l (.r (.r (.l p1))))), (.r (.l (.r (.r (.l p1))))), (.l (.r (.r (.r (.l p1))))), (.r (.r (.r (.r (.l p1))))), (.l (.l (.l (.l (.r p1))))), (.r (.l (.l (.l (.r p1))))), (.l (.r (.l (.l (.r p1))))), (.r (.r (.l (.l (.r p1))))), (.l (.l (.r (.l (.r p1))))), (.r (.l (.r (.l (.r p1))))), (.l (.r (.r (.l (.r p1))))), (.r (.r (.r (.l (.r p1))))), (.l (.l (.l (.r (.r p1))))), (.r (.l (.l (.r (.r p1))))), (.l (.r (.l (.r (.r p1))))), (.r (.r (.l (.r (.r p1))))), (.l (.l (.r (.r (.r p1))))), (.r (.l (.r (.r (.r p1))))), (.l (.r (.r (.r (.r p1))))), (.r (.r (.r (.r (.r p1))))), (.l (.l (.l (.l (.l p2))))), (.r (.l (.l (.l (.l p2))))), (.l (.r (.l (.l (.l p2)))))]⟩
noncomputable def r58x0 : RF := fun call ρ st K => K [(.sc .nils)] st
theorem h58x0 : RegOk [⟨(some p2), none, (.move (.c (.sc .nils)))⟩] [p2] r58x0 := by
  intro call ρ st K
  kernel_rfl
noncomputable def r58x1 : RF := fun call ρ st K => call (nat_lit 62) [(u6 1)] st (fun v0 st => K [v0] st)
theorem h58x1 : RegOk [⟨(some (.l (.l p2))), none, (.call (nat_lit 62) [(.c (.sc (.int .u64 (.ofNat (nat_lit 1)))))])⟩, ⟨(some (.l p1)), none, (.move (.t (.l (.l p2))))⟩] [(.l p1)] r58x1 := by
  intro call ρ st K
  kernel_rfl
noncomputable def r58x2 : RF := fun call ρ st K => lnS (ρ p0) (fun v => (fun v0 st => K [(ρ p0), v0, (i6 0)] st) v st)
theorem h58x2 : RegOk [⟨(some (.r (.l p2))), none, (.move (.t p0))⟩, ⟨(some (.l (.r p2))), none, (.more (.len (.t (.r (.l p2)))))⟩, ⟨(some (.r (.r p2))), none, (.move (.c (.sc (.int .i64 (.ofNat (nat_lit 0))))))⟩] [(.r (.l p2)), (.l (.r p2)), (.r (.r p2))] r58x2 := by
  intro call ρ st K
  kernel_rfl
noncomputable def r58x3 : RF := fun call ρ st K => binK .lss (ρ (.r (.r p2))) (ρ (.l (.r p2))) (fun v => (fun v0 st => K [v0] st) v st)
theorem h58x3 : RegOk [⟨(some (.l (.l (.l p1)))), none, (.bin .lss (.t (.r (.r p2))) (.t (.l (.r p2))))⟩] [(.l (.l (.l p1)))] r58x3 := by
  intro call ρ st K
  kernel_rfl
noncomputable def r58x4 : RF := fun call ρ st K => ixs (nat_lit 1) (ρ (.r (.l p2))) (ρ (.r (.r p2))) (fun v => (fun v0 st => ld1 st v0 (fun v => (fun v1 st => K [v1] st) v st)) v st)
theorem h58x4 : RegOk [⟨(some (.r (.l (.l p1)))), none, (.idxS (nat_lit 1) (.t (.r (.l p2))) (.t (.r (.r p2))))⟩, ⟨(some (.l (.r (.l p1)))), none, (.load1 (.t (.r (.l (.l p1)))))⟩, ⟨(some (.l p2)), none, (.move (.t (.l (.r (.l p1)))))⟩] [(.l p2)] r58x4 := by
  intro call ρ st K
  kernel_rfl
noncomputable def r58x5 : RF := fun call ρ st K => K [(.sc .nils)] st
theorem h58x5 : RegOk [⟨(some (.r p2)), none, (.move (.c (.sc .nils)))⟩] [(.r p2)] r58x5 := by
  intro call ρ st K
  kernel_rfl
noncomputable def r58x6 : RF := fun call ρ st K => lnS (ρ (.l p1)) (fun v => (fun v0 st => K [(ρ (.l p1)), v0, (i6 0)] st) v st)
theorem h58x6 : RegOk [⟨(some (.r (.r (.l p1)))), none, (.move (.t (.l p1)))⟩, ⟨(some (.l (.l (.r p1)))), none, (.more (.len (.t (.r (.r (.l p1))))))⟩, ⟨(some (.r (.l (.r p1)))), none, (.move (.c (.sc (.int .i64 (.ofNat (nat_lit 0))))))⟩] [(.r (.r (.l p1))), (.l (.l (.r p1))), (.r (.l (.r p1)))] r58x6 := by
  intro call ρ st K
  kernel_rfl
noncomputable def r58x7 : RF := fun call ρ st K => binK .lss (ρ (.r (.l (.r p1)))) (ρ (.l (.l (.r p1)))) (fun v => (fun v0 st => K [v0] st) v st)
theorem h58x7 : RegOk [⟨(some (.l (.r (.r p1)))), none, (.bin .lss (.t (.r (.l (.r p1)))) (.t (.l (.l (.r p1)))))⟩] [(.l (.r (.r p1)))] r58x7 := by
  intro call ρ st K
  kernel_rfl
noncomputable def r58x8 : RF := fun call ρ st K => ixs (nat_lit 2) (ρ (.r (.r (.l p1)))) (ρ (.r (.l (.r p1)))) (fun v => (fun v0 st => ldN st (nat_lit 2) v0 (fun v => (fun v1 st => alc st [(.int .u64 (.ofNat (nat_lit 0))), .nils] (fun v2 st => sto st (nat_lit 2) v2 v1 ((fun _ st => K [v2] st) undefV))) v st)) v st)
theorem h58x8 : RegOk [⟨(some (.r (.r (.r p1)))), none, (.idxS (nat_lit 2) (.t (.r (.r (.l p1)))) (.t (.r (.l (.r p1)))))⟩, ⟨(some (.l (.l (.l p2)))), none, (.loadN (nat_lit 2) (.t (.r (.r (.r p1)))))⟩, ⟨(some (.r (.l p1))), none, (.more (.alloc [(.int .u64 (.ofNat (nat_lit 0))), .nils]))⟩, ⟨none, none, (.more (.store (nat_lit 2) (.t (.r (.l p1))) (.t (.l (.l (.l p2))))))⟩] [(.r (.l p1))] r58x8 := by
  intro call ρ st K
  kernel_rfl
noncomputable def r58x9 : RF := fun call ρ st K => lnS (ρ (.l p2)) (fun v => (fun v0 st => K [(ρ (.l p2)), v0, (i6 0)] st) v st)
theorem h58x9 : RegOk [⟨(some (.r (.l (.l p2)))), none, (.move (.t (.l p2)))⟩, ⟨(some (.l (.r (.l p2)))), none, (.more (.len (.t (.r (.l (.l p2))))))⟩, ⟨(some (.r (.r (.l p2)))), none, (.move (.c (.sc (.int .i64 (.ofNat (nat_lit 0))))))⟩] [(.r (.l (.l p2))), (.l (.r (.l p2))), (.r (.r (.l p2)))] r58x9 := by
  intro call ρ st K
  kernel_rfl
noncomputable def r58x10 : RF := fun call ρ st K => binK .lss (ρ (.r (.r (.l p2)))) (ρ (.l (.r (.l p2)))) (fun v => (fun v0 st => K [v0] st) v st)
theorem h58x10 : RegOk [⟨(some (.l (.l (.r p2)))), none, (.bin .lss (.t (.r (.r (.l p2)))) (.t (.l (.r (.l p2)))))⟩] [(.l (.l (.r p2)))] r58x10 := by
  intro call ρ st K
  kernel_rfl
noncomputable def r58x11 : RF := fun call ρ st K => ixs (nat_lit 2) (ρ (.r (.l (.l p2)))) (ρ (.r (.r (.l p2)))) (fun v => (fun v0 st => ldN st (nat_lit 2) v0 (fun v => (fun v1 st => alc st [(.int .u64 (.ofNat (nat_lit 0))), .nils] (fun v2 st => sto st (nat_lit 2) v2 v1 ((fun _ st => K [v2] st) undefV))) v st)) v st)
theorem h58x11 : RegOk [⟨(some (.r (.l (.r p2)))), none, (.idxS (nat_lit 2) (.t (.r (.l (.l p2)))) (.t (.r (.r (.l p2)))))⟩, ⟨(some (.l (.r (.r p2)))), none, (.loadN (nat_lit 2) (.t (.r (.l (.r p2)))))⟩, ⟨(some (.r (.r p1))), none, (.more (.alloc [(.int .u64 (.ofNat (nat_lit 0))), .nils]))⟩, ⟨none, none, (.more (.store (nat_lit 2) (.t (.r (.r p1))) (.t (.l (.r (.r p2))))))⟩] [(.r (.r p1))] r58x11 := by
  intro call ρ st K
  kernel_rfl
noncomputable def r58x12 : RF := fun call ρ st K => (fun n0 mk => (fun v st => (fun v0 mk st => fad (nat_lit 0) (ρ (.r (.l p1))) (fun v => (fun v st => (fun v1 mk st => dw2 n0 mk (nat_lit 4) (nat_lit 2) v1 (fun q => ld1 st v1 (fun v => (q) v st)) (fun v2 mk st => fad (nat_lit 0) (ρ (.r (.r p1))) (fun v => (fun v st => (fun v3 mk st => dw2 n0 mk (nat_lit 16) (nat_lit 8) v3 (fun q => ld1 st v3 (fun v => (q) v st)) (fun v4 mk st => dw3 mk (nat_lit 32) (nat_lit 30) st (fun st q => call (nat_lit 81) [(i6 3), v2, v4] st (q)) (fun v5 mk st => fad (nat_lit 1) (ρ (.r (.l p1))) (fun v => (fun v st => (fun v6 mk st => dw2 n0 mk (nat_lit 128) (nat_lit 64) v6 (fun q => ld1 st v6 (fun v => (q) v st)) (fun v7 mk st => fad (nat_lit 1) (ρ (.r (.r p1))) (fun v => (fun v st => (fun v8 mk st => dw2 n0 mk (nat_lit 512) (nat_lit 256) v8 (fun q => ld1 st v8 (fun v => (q) v st)) (fun v9 mk st => dw1 mk (nat_lit 1024) (fun q => h_op3_buildS (nat_lit 2) (nat_lit 1) [.nils, .nils] [((nat_lit 0), (nat_lit 1), (.c v7)), ((nat_lit 1), (nat_lit 1), (.c v9))] call ρ st (q)) (fun v10 mk st => dw3 mk (nat_lit 2048) (nat_lit 2046) st (fun st q => call (nat_lit 82) [v10] st (q)) (fun v11 mk st => h_op3_build [(.int .u64 (.ofNat (nat_lit 0))), .nils] [((nat_lit 0), (nat_lit 1), (.c v5)), ((nat_lit 1), (nat_lit 1), (.c v11))] call ρ st (fun v st => (fun v12 mk st => dw1 mk (nat_lit 8192) (fun q => h_op3_buildS (nat_lit 1) (nat_lit 2) [(.int .u64 (.ofNat (nat_lit 0))), .nils] [((nat_lit 0), (nat_lit 2), (.c v12))] call ρ st (q)) (fun v13 mk st => dw5 n0 mk (nat_lit 16384) (nat_lit 16383) st (.more (.more (.append (nat_lit 2) (nat_lit 32) (.c v0) (.c v13)))) ρ (fun st q => h_op3_append (nat_lit 2) (nat_lit 32) (.c v0) (.c v13) call ρ st (q)) (fun v14 mk st => (fun v st => (fun v15 mk st => K [v15] st) v mk st) v14 st))) v mk st))))) v mk st) v st))) v mk st) v st)))) v mk st) v st))) v mk st) v st)) v mk st) (ρ (.r p2)) st) st.next mk0
theorem h58x12 : DrwOk [⟨(some (.r (.r (.r p2)))), none, (.move (.t (.r p2))), (nat_lit 0), (nat_lit 1), (nat_lit 0)⟩, ⟨(some (.l (.l (.l (.l p1))))), none, (.fa (nat_lit 0) (.t (.r (.l p1)))), (nat_lit 0), (nat_lit 2), (nat_lit 0)⟩, ⟨(some (.r (.l (.l (.l p1))))), none, (.load1 (.t (.l (.l (.l (.l p1)))))), (nat_lit 2), (nat_lit 4), (nat_lit 2)⟩, ⟨(some (.l (.r (.l (.l p1))))), none, (.fa (nat_lit 0) (.t (.r (.r p1)))), (nat_lit 0), (nat_lit 8), (nat_lit 0)⟩, ⟨(some (.r (.r (.l (.l p1))))), none, (.load1 (.t (.l (.r (.l (.l p1)))))), (nat_lit 2), (nat_lit 16), (nat_lit 8)⟩, ⟨(some (.l (.l (.r (.l p1))))), none, (.call (nat_lit 81) [(.c (.sc (.int .i64 (.ofNat (nat_lit 3))))), (.t (.r (.l (.l (.l p1))))), (.t (.r (.r (.l (.l p1)))))]), (nat_lit 3), (nat_lit 32), (nat_lit 30)⟩, ⟨(some (.r (.l (.r (.l p1))))), none, (.fa (nat_lit 1) (.t (.r (.l p1)))), (nat_lit 0), (nat_lit 64), (nat_lit 0)⟩, ⟨(some (.l (.r (.r (.l p1))))), none, (.load1 (.t (.r (.l (.r (.l p1)))))), (nat_lit 2), (nat_lit 128), (nat_lit 64)⟩, ⟨(some (.r (.r (.r (.l p1))))), none, (.fa (nat_lit 1) (.t (.r (.r p1)))), (nat_lit 0), (nat_lit 256), (nat_lit 0)⟩, ⟨(some (.l (.l (.l (.r p1))))), none, (.load1 (.t (.r (.r (.r (.l p1)))))), (nat_lit 2), (nat_lit 512), (nat_lit 256)⟩, ⟨(some (.r (.l (.l (.r p1))))), none, (.more (.more (.buildS (nat_lit 2) (nat_lit 1) [.nils, .nils] [((nat_lit 0), (nat_lit 1), (.t (.l (.r (.r (.l p1)))))), ((nat_lit 1), (nat_lit 1), (.t (.l (.l (.l (.r p1))))))]))), (nat_lit 1), (nat_lit 1024), (nat_lit 960)⟩, ⟨(some (.l (.r (.l (.r p1))))), none, (.call (nat_lit 82) [(.t (.r (.l (.l (.r p1)))))]), (nat_lit 3), (nat_lit 2048), (nat_lit 2046)⟩, ⟨(some (.r (.r (.l (.r p1))))), none, (.more (.more (.build [(.int .u64 (.ofNat (nat_lit 0))), .nils] [((nat_lit 0), (nat_lit 1), (.t (.l (.l (.r (.l p1)))))), ((nat_lit 1), (nat_lit 1), (.t (.l (.r (.l (.r p1))))))]))), (nat_lit 0), (nat_lit 4096), (nat_lit 4094)⟩, ⟨(some (.l (.l (.r (.r p1))))), none, (.more (.more (.buildS (nat_lit 1) (nat_lit 2) [(.int .u64 (.ofNat (nat_lit 0))), .nils] [((nat_lit 0), (nat_lit 2), (.t (.r (.r (.l (.r p1))))))]))), (nat_lit 1), (nat_lit 8192), (nat_lit 8190)⟩, ⟨(some (.r (.l (.r (.r p1))))), none, (.more (.more (.append (nat_lit 2) (nat_lit 32) (.t (.r (.r (.r p2)))) (.t (.l (.l (.r (.r p1)))))))), (nat_lit 5), (nat_lit 16384), (nat_lit 16383)⟩, ⟨(some (.r p2)), none, (.move (.t (.r (.l (.r (.r p1)))))), (nat_lit 0), (nat_lit 32768), (nat_lit 32767)⟩] [(.r p2)] r58x12 := by
  intro call ρ st K
  kernel_rfl
noncomputable def r58x13 : RF := fun call ρ st K => binK .add (ρ (.r (.r (.l p2)))) (i6 1) (fun v => (fun v0 st => K [v0] st) v st)
theorem h58x13 : RegOk [⟨(some (.l (.r (.r (.r p1))))), none, (.bin .add (.t (.r (.r (.l p2)))) (.c (.sc (.int .i64 (.ofNat (nat_lit 1))))))⟩, ⟨(some (.r (.r (.l p2)))), none, (.move (.t (.l (.r (.r (.r p1))))))⟩] [(.r (.r (.l p2)))] r58x13 := by
  intro call ρ st K
  kernel_rfl
noncomputable def r58x14 : RF := fun call ρ st K => binK .add (ρ (.r (.l (.r p1)))) (i6 1) (fun v => (fun v0 st => K [v0] st) v st)
theorem h58x14 : RegOk [⟨(some (.r (.r (.r (.r p1))))), none, (.bin .add (.t (.r (.l (.r p1)))) (.c (.sc (.int .i64 (.ofNat (nat_lit 1))))))⟩, ⟨(some (.r (.l (.r p1)))), none, (.move (.t (.r (.r (.r (.r p1))))))⟩] [(.r (.l (.r p1)))] r58x14 := by
  intro call ρ st K
  kernel_rfl
noncomputable def r58x15 : RF := fun call ρ st K => K [(ρ (.r p2))] st
theorem h58x15 : RegOk [⟨(some (.l (.l (.l (.l p2))))), none, (.move (.t (.r p2)))⟩, ⟨(some (.l p1)), none, (.move (.t (.l (.l (.l (.l p2))))))⟩] [(.l p1)] r58x15 := by
  intro call ρ st K
  kernel_rfl
noncomputable def r58x16 : RF := fun call ρ st K => binK .add (ρ (.r (.r p2))) (i6 1) (fun v => (fun v0 st => K [v0] st) v st)
theorem h58x16 : RegOk [⟨(some (.r (.l (.l (.l p2))))), none, (.bin .add (.t (.r (.r p2))) (.c (.sc (.int .i64 (.ofNat (nat_lit 1))))))⟩, ⟨(some (.r (.r p2))), none, (.move (.t (.r (.l (.l (.l p2))))))⟩] [(.r (.r p2))] r58x16 := by
  intro call ρ st K
  kernel_rfl
noncomputable def r58x17 : RF := fun call ρ st K => K [(ρ (.l p1))] st
theorem h58x17 : RegOk [⟨(some (.l (.r (.l (.l p2))))), none, (.move (.t (.l p1)))⟩, ⟨(some p2), none, (.move (.t (.l (.r (.l (.l p2))))))⟩] [p2] r58x17 := by
  intro call ρ st K
  kernel_rfl
/- attestor/trace.mul -/
noncomputable def cf58 : HF := ⟨(.seq (.reg _ _ _ h58x0)
 (.seq (.reg _ _ _ h58x1)
 (.seq (.seq (.reg _ _ _ h58x2)
 (.block (nat_lit 0) (.loop (.seq (.reg _ _ _ h58x3)
 (.seq (.cond (.t (.l (.l (.l p1)))) .skip
 (.exit (nat_lit 0)))
 (.seq (.block (nat_lit 1) (.seq (.reg _ _ _ h58x4)
 (.seq (.reg _ _ _ h58x5)
 (.seq (.seq (.reg _ _ _ h58x6)
 (.block (nat_lit 2) (.loop (.seq (.reg _ _ _ h58x7)
 (.seq (.cond (.t (.l (.r (.r p1)))) .skip
 (.exit (nat_lit 2)))
 (.seq (.block (nat_lit 3) (.seq (.reg _ _ _ h58x8)
 (.seq (.reg _ _ _ h58x9)
 (.block (nat_lit 4) (.loop (.seq (.reg _ _ _ h58x10)
 (.seq (.cond (.t (.l (.l (.r p2)))) .skip
 (.exit (nat_lit 4)))
 (.seq (.block (nat_lit 5) (.seq (.reg _ _ _ h58x11)
 (.drw _ _ _ h58x12)))
 (.reg _ _ _ h58x13)))))))))
 (.reg _ _ _ h58x14)))))))
 (.reg _ _ _ h58x15)))))
 (.reg _ _ _ h58x16)))))))
 (.seq (.reg _ _ _ h58x17)
 .ret)))), [(.tmp p2)], [p0], [(.l (.l p2)), (.r (.l (.l p1))), (.l (.r (.l p1))), (.r (.r (.r p1))), (.l (.l (.l p2))), (.r (.l (.r p2))), (.l (.r (.r p2))), (.r (.r (.r p2))), (.l (.l (.l (.l p1)))), (.r (.l (.l (.l p1)))), (.l (.r (.l (.l p1)))), (.r (.r (.l (.l p1)))), (.l (.l (.r (.l p1)))), (.r (.l (.r (.l p1)))), (.l (.r (.r (.l p1)))), (.r (.r (.r (.l p1)))), (.l (.l (.l (.r p1)))), (.r (.l (.l (.r p1)))), (.l (.r (.l (.r p1)))), (.r (.r (.l (.r p1)))), (.l (.l (.r (.r p1)))), (.r (.l (.r (.r p1)))), (.l (.r (.r (.r p1)))), (.r (.r (.r (.r p1)))), (.l (.l (.l (.l p2)))), (.r (.l (.l (.l p2)))), (.l (.r (.l (.l p2))))]⟩
noncomputable def r82x0 : RF := fun call ρ st K => K [(.sc .nils)] st
theorem h82x0 : RegOk [⟨(some p2), none, (.move (.c (.sc .nils)))⟩] [p2] r82x0 := by
  intro call ρ st K
  kernel_rfl
noncomputable def r82x1 : RF := fun call ρ st K => K [(i6 0)] st
theorem h82x1 : RegOk [⟨(some (.l p1)), none, (.move (.c (.sc (.int .i64 (.ofNat (nat_lit 0))))))⟩] [(.l p1)] r82x1 := by
  intro call ρ st K
  kernel_rfl
noncomputable def r82x2 : RF := fun call ρ st K => lnS (ρ p0) (fun v => (fun v0 st => K [(ρ p0), v0, (i6 0)] st) v st)
theorem h82x2 : RegOk [⟨(some (.l (.r p1))), none, (.move (.t p0))⟩, ⟨(some (.r (.r p1))), none, (.more (.len (.t (.l (.r p1)))))⟩, ⟨(some (.l (.l p2))), none, (.move (.c (.sc (.int .i64 (.ofNat (nat_lit 0))))))⟩] [(.l (.r p1)), (.r (.r p1)), (.l (.l p2))] r82x2 := by
  intro call ρ st K
  kernel_rfl
noncomputable def r82x3 : RF := fun call ρ st K => binK .lss (ρ (.l (.l p2))) (ρ (.r (.r p1))) (fun v => (fun v0 st => K [v0] st) v st)
theorem h82x3 : RegOk [⟨(some (.r (.l p2))), none, (.bin .lss (.t (.l (.l p2))) (.t (.r (.r p1))))⟩] [(.r (.l p2))] r82x3 := by
  intro call ρ st K
  kernel_rfl
noncomputable def r82x4 : RF := fun call ρ st K => ixs (nat_lit 1) (ρ (.l (.r p1))) (ρ (.l (.l p2))) (fun v => (fun v0 st => ld1 st v0 (fun v => (fun v1 st => K [v1] st) v st)) v st)
theorem h82x4 : RegOk [⟨(some (.l (.r p2))), none, (.idxS (nat_lit 1) (.t (.l (.r p1))) (.t (.l (.l p2))))⟩, ⟨(some (.r (.r p2))), none, (.load1 (.t (.l (.r p2))))⟩, ⟨(some (.l p2)), none, (.move (.t (.r (.r p2))))⟩] [(.l p2)] r82x4 := by
  intro call ρ st K
  kernel_rfl
noncomputable def r82x5 : RF := fun call ρ st K => lnS (ρ (.l p2)) (fun v => (fun v0 st => binK .add (ρ (.l p1)) v0 (fun v => (fun v1 st => K [v1] st) v st)) v st)
theorem h82x5 : RegOk [⟨(some (.l (.l (.l p1)))), none, (.move (.t (.l p1)))⟩, ⟨(some (.r (.l (.l p1)))), none, (.move (.t (.l p2)))⟩, ⟨(some (.l (.r (.l p1)))), none, (.more (.len (.t (.r (.l (.l p1))))))⟩, ⟨(some (.r (.r (.l p1)))), none, (.bin .add (.t (.l (.l (.l p1)))) (.t (.l (.r (.l p1)))))⟩, ⟨(some (.l p1)), none, (.move (.t (.r (.r (.l p1)))))⟩] [(.l p1)] r82x5 := by
  intro call ρ st K
  kernel_rfl
noncomputable def r82x6 : RF := fun call ρ st K => binK .lss (ρ (.l p1)) (i6 0) (fun v => (fun v0 st => K [v0] st) v st)
theorem h82x6 : RegOk [⟨(some (.l (.l (.r p1)))), none, (.move (.t (.l p1)))⟩, ⟨(some (.r (.l (.r p1)))), none, (.bin .lss (.t (.l (.l (.r p1)))) (.c (.sc (.int .i64 (.ofNat (nat_lit 0))))))⟩] [(.r (.l (.r p1)))] r82x6 := by
  intro call ρ st K
  kernel_rfl
noncomputable def r82x7 : RF := fun call ρ st K => h_op4_iface (nat_lit 9) (.c (.sc (.lit (.string ⟨#[108, 101, 110, 32, 111, 117, 116, 32, 111, 102, 32, 114, 97, 110, 103, 101]⟩)))) call ρ st (fun v0 st => h_op4_bad (nat_lit 102) call ρ st (fun _ st => K [] st))
theorem h82x7 : RegOk [⟨(some (.l (.r (.r p1)))), none, (.more (.more (.more (.iface (nat_lit 9) (.c (.sc (.lit (.string ⟨#[108, 101, 110, 32, 111, 117, 116, 32, 111, 102, 32, 114, 97, 110, 103, 101]⟩))))))))⟩, ⟨none, none, (.more (.more (.more (.bad (nat_lit 102)))))⟩] [] r82x7 := by
  intro call ρ st K
  kernel_rfl
noncomputable def r82x8 : RF := fun call ρ st K => binK .add (ρ (.l (.l p2))) (i6 1) (fun v => (fun v0 st => K [v0] st) v st)
theorem h82x8 : RegOk [⟨(some (.r (.r (.r p1)))), none, (.bin .add (.t (.l (.l p2))) (.c (.sc (.int .i64 (.ofNat (nat_lit 1))))))⟩, ⟨(some (.l (.l p2))), none, (.move (.t (.r (.r (.r p1)))))⟩] [(.l (.l p2))] r82x8 := by
  intro call ρ st K
  kernel_rfl
noncomputable def r82x9 : RF := fun call ρ st K => call (nat_lit 90) [(.sc .nils), (ρ (.l p1))] st (fun v0 st => K [v0] st)
theorem h82x9 : RegOk [⟨(some (.l (.l (.l p2)))), none, (.move (.t (.l p1)))⟩, ⟨(some (.r (.l (.l p2)))), none, (.call (nat_lit 90) [(.c (.sc .nils)), (.t (.l (.l (.l p2))))])⟩, ⟨(some (.r p2)), none, (.move (.t (.r (.l (.l p2)))))⟩] [(.r p2)] r82x9 := by
  intro call ρ st K
  kernel_rfl
noncomputable def r82x10 : RF := fun call ρ st K => lnS (ρ p0) (fun v => (fun v0 st => K [(ρ p0), v0, (i6 0)] st) v st)
theorem h82x10 : RegOk [⟨(some (.l (.r (.l p2)))), none, (.move (.t p0))⟩, ⟨(some (.r (.r (.l p2)))), none, (.more (.len (.t (.l (.r (.l p2))))))⟩, ⟨(some (.l (.l (.r p2)))), none, (.move (.c (.sc (.int .i64 (.ofNat (nat_lit 0))))))⟩] [(.l (.r (.l p2))), (.r (.r (.l p2))), (.l (.l (.r p2)))] r82x10 := by
  intro call ρ st K
  kernel_rfl
noncomputable def r82x11 : RF := fun call ρ st K => binK .lss (ρ (.l (.l (.r p2)))) (ρ (.r (.r (.l p2)))) (fun v => (fun v0 st => K [v0] st) v st)
theorem h82x11 : RegOk [⟨(some (.r (.l (.r p2)))), none, (.bin .lss (.t (.l (.l (.r p2)))) (.t (.r (.r (.l p2)))))⟩] [(.r (.l (.r p2)))] r82x11 := by
  intro call ρ st K
  kernel_rfl
noncomputable def r82x12 : RF := fun call ρ st K => ixs (nat_lit 1) (ρ (.l (.r (.l p2)))) (ρ (.l (.l (.r p2)))) (fun v => (fun v0 st => ld1 st v0 (fun v => (fun v1 st => K [v1] st) v st)) v st)
theorem h82x12 : RegOk [⟨(some (.l (.r (.r p2)))), none, (.idxS (nat_lit 1) (.t (.l (.r (.l p2)))) (.t (.l (.l (.r p2)))))⟩, ⟨(some (.r (.r (.r p2)))), none, (.load1 (.t (.l (.r (.r p2)))))⟩, ⟨(some (.r (.l p1))), none, (.move (.t (.r (.r (.r p2)))))⟩] [(.r (.l p1))] r82x12 := by
  intro call ρ st K
  kernel_rfl
noncomputable def r82x13 : RF := fun call ρ st K => h_op3_append (nat_lit 2) (nat_lit 16) (.c (ρ (.r p2))) (.c (ρ (.r (.l p1)))) call ρ st (fun v0 st => K [v0] st)
theorem h82x13 : RegOk [⟨(some (.l (.l (.l (.l p1))))), none, (.move (.t (.r p2)))⟩, ⟨(some (.r (.l (.l (.l p1))))), none, (.move (.t (.r (.l p1))))⟩, ⟨(some (.l (.r (.l (.l p1))))), none, (.more (.more (.append (nat_lit 2) (nat_lit 16) (.t (.l (.l (.l (.l p1))))) (.t (.r (.l (.l (.l p1))))))))⟩, ⟨(some (.r p2)), none, (.move (.t (.l (.r (.l (.l p1))))))⟩] [(.r p2)] r82x13 := by
  intro call ρ st K
  kernel_rfl
noncomputable def r82x14 : RF := fun call ρ st K => binK .add (ρ (.l (.l (.r p2)))) (i6 1) (fun v => (fun v0 st => K [v0] st) v st)
theorem h82x14 : RegOk [⟨(some (.r (.r (.l (.l p1))))), none, (.bin .add (.t (.l (.l (.r p2)))) (.c (.sc (.int .i64 (.ofNat (nat_lit 1))))))⟩, ⟨(some (.l (.l (.r p2)))), none, (.move (.t (.r (.r (.l (.l p1))))))⟩] [(.l (.l (.r p2)))] r82x14 := by
  intro call ρ st K
  kernel_rfl
noncomputable def r82x15 : RF := fun call ρ st K => K [(ρ (.r p2))] st
theorem h82x15 : RegOk [⟨(some (.l (.l (.r (.l p1))))), none, (.move (.t (.r p2)))⟩, ⟨(some p2), none, (.move (.t (.l (.l (.r (.l p1))))))⟩] [p2] r82x15 := by
  intro call ρ st K
  kernel_rfl
/- slices.Concat[[]attestor/api.Var,attestor/api.Var] -/
noncomputable def cf82 : HF := ⟨(.seq (.reg _ _ _ h82x0)
 (.seq (.reg _ _ _ h82x1)
 (.seq (.seq (.reg _ _ _ h82x2)
 (.block (nat_lit 0) (.loop (.seq (.reg _ _ _ h82x3)
 (.seq (.cond (.t (.r (.l p2))) .skip
 (.exit (nat_lit 0)))
 (.seq (.block (nat_lit 1) (.seq (.reg _ _ _ h82x4)
 (.seq (.reg _ _ _ h82x5)
 (.seq (.reg _ _ _ h82x6)
 (.cond (.t (.r (.l (.r p1)))) (.reg _ _ _ h82x7)
 .skip)))))
 (.reg _ _ _ h82x8)))))))
 (.seq (.reg _ _ _ h82x9)
 (.seq (.seq (.reg _ _ _ h82x10)
 (.block (nat_lit 2) (.loop (.seq (.reg _ _ _ h82x11)
 (.seq (.cond (.t (.r (.l (.r p2)))) .skip
 (.exit (nat_lit 2)))
 (.seq (.block (nat_lit 3) (.seq (.reg _ _ _ h82x12)
 (.reg _ _ _ h82x13)))
 (.reg _ _ _ h82x14)))))))
 (.seq (.reg _ _ _ h82x15)
 .ret)))))), [(.tmp p2)], [p0], [(.l (.r p2)), (.r (.r p2)), (.l (.l (.l p1))), (.r (.l (.l p1))), (.l (.r (.l p1))), (.r (.r (.l p1))), (.l (.l (.r p1))), (.l (.r (.r p1))), (.r (.r (.r p1))), (.l (.l (.l p2))), (.r (.l (.l p2))), (.l (.r (.r p2))), (.r (.r (.r p2))), (.l (.l (.l (.l p1)))), (.r (.l (.l (.l p1)))), (.l (.r (.l (.l p1)))), (.r (.r (.l (.l p1)))), (.l (.l (.r (.l p1))))]⟩
noncomputable def r90x0 : RF := fun call ρ st K => K [(.sc .nils)] st
theorem h90x0 : RegOk [⟨(some (.r p1)), none, (.move (.c (.sc .nils)))⟩] [(.r p1)] r90x0 := by
  intro call ρ st K
  kernel_rfl
noncomputable def r90x1 : RF := fun call ρ st K => binK .lss (ρ p1) (i6 0) (fun v => (fun v0 st => K [v0] st) v st)
theorem h90x1 : RegOk [⟨(some (.l p2)), none, (.move (.t p1))⟩, ⟨(some (.r p2)), none, (.bin .lss (.t (.l p2)) (.c (.sc (.int .i64 (.ofNat (nat_lit 0))))))⟩] [(.r p2)] r90x1 := by
  intro call ρ st K
  kernel_rfl
noncomputable def r90x2 : RF := fun call ρ st K => h_op4_iface (nat_lit 9) (.c (.sc (.lit (.string ⟨#[99, 97, 110, 110, 111, 116, 32, 98, 101, 32, 110, 101, 103, 97, 116, 105, 118, 101]⟩)))) call ρ st (fun v0 st => h_op4_bad (nat_lit 102) call ρ st (fun _ st => K [] st))
theorem h90x2 : RegOk [⟨(some (.l (.l p1))), none, (.more (.more (.more (.iface (nat_lit 9) (.c (.sc (.lit (.string ⟨#[99, 97, 110, 110, 111, 116, 32, 98, 101, 32, 110, 101, 103, 97, 116, 105, 118, 101]⟩))))))))⟩, ⟨none, none, (.more (.more (.more (.bad (nat_lit 102)))))⟩] [] r90x2 := by
  intro call ρ st K
  kernel_rfl
noncomputable def r90x3 : RF := fun call ρ st K => h_op4_capOf (.c (ρ p0)) call ρ st (fun v0 st => lnS (ρ p0) (fun v => (fun v1 st => binK .sub v0 v1 (fun v => (fun v2 st => binK .sub (ρ p1) v2 (fun v => (fun v3 st => K [v3] st) v st)) v st)) v st))
theorem h90x3 : RegOk [⟨(some (.r (.l p1))), none, (.move (.t p1))⟩, ⟨(some (.l (.r p1))), none, (.move (.t p0))⟩, ⟨(some (.r (.r p1))), none, (.more (.more (.more (.capOf (.t (.l (.r p1)))))))⟩, ⟨(some (.l (.l p2))), none, (.move (.t p0))⟩, ⟨(some (.r (.l p2))), none, (.more (.len (.t (.l (.l p2)))))⟩, ⟨(some (.l (.r p2))), none, (.bin .sub (.t (.r (.r p1))) (.t (.r (.l p2))))⟩, ⟨(some (.r (.r p2))), none, (.bin .sub (.t (.r (.l p1))) (.t (.l (.r p2))))⟩, ⟨(some p1), none, (.move (.t (.r (.r p2))))⟩] [p1] r90x3 := by
  intro call ρ st K
  kernel_rfl
noncomputable def r90x4 : RF := fun call ρ st K => binK .gtr (ρ p1) (i6 0) (fun v => (fun v0 st => K [v0] st) v st)
theorem h90x4 : RegOk [⟨(some (.l (.l (.l p1)))), none, (.move (.t p1))⟩, ⟨(some (.r (.l (.l p1)))), none, (.bin .gtr (.t (.l (.l (.l p1)))) (.c (.sc (.int .i64 (.ofNat (nat_lit 0))))))⟩] [(.r (.l (.l p1)))] r90x4 := by
  intro call ρ st K
  kernel_rfl
noncomputable def r90x5 : RF := fun call ρ st K => h_op4_capOf (.c (ρ p0)) call ρ st (fun v0 st => h_op3_sliceS (nat_lit 2) (.c (ρ p0)) none (some (.c v0)) none call ρ st (fun v1 st => h_op3_appendZ (nat_lit 2) (nat_lit 16) [(.int .u8 (.ofNat (nat_lit 0))), (.int .i64 (.ofNat (nat_lit 0)))] (.c v1) (.c (ρ p1)) call ρ st (fun v2 st => lnS (ρ p0) (fun v => (fun v3 st => h_op3_sliceS (nat_lit 2) (.c v2) none (some (.c v3)) none call ρ st (fun v4 st => K [v4] st)) v st))))
theorem h90x5 : RegOk [⟨(some (.l (.r (.l p1)))), none, (.move (.t p0))⟩, ⟨(some (.r (.r (.l p1)))), none, (.move (.t p0))⟩, ⟨(some (.l (.l (.r p1)))), none, (.more (.more (.more (.capOf (.t (.r (.r (.l p1))))))))⟩, ⟨(some (.r (.l (.r p1)))), none, (.more (.more (.sliceS (nat_lit 2) (.t (.l (.r (.l p1)))) none (some (.t (.l (.l (.r p1))))) none)))⟩, ⟨(some (.l (.r (.r p1)))), none, (.move (.t p1))⟩, ⟨(some (.r (.r (.r p1)))), none, (.more (.more (.appendZ (nat_lit 2) (nat_lit 16) [(.int .u8 (.ofNat (nat_lit 0))), (.int .i64 (.ofNat (nat_lit 0)))] (.t (.r (.l (.r p1)))) (.t (.l (.r (.r p1)))))))⟩, ⟨(some (.l (.l (.l p2)))), none, (.move (.t p0))⟩, ⟨(some (.r (.l (.l p2)))), none, (.more (.len (.t (.l (.l (.l p2))))))⟩, ⟨(some (.l (.r (.l p2)))), none, (.more (.more (.sliceS (nat_lit 2) (.t (.r (.r (.r p1)))) none (some (.t (.r (.l (.l p2))))) none)))⟩, ⟨(some p0), none, (.move (.t (.l (.r (.l p2)))))⟩] [p0] r90x5 := by
  intro call ρ st K
  kernel_rfl
noncomputable def r90x6 : RF := fun call ρ st K => K [(ρ p0)] st
theorem h90x6 : RegOk [⟨(some (.r (.r (.l p2)))), none, (.move (.t p0))⟩, ⟨(some (.r p1)), none, (.move (.t (.r (.r (.l p2)))))⟩] [(.r p1)] r90x6 := by
  intro call ρ st K
  kernel_rfl
/- slices.Grow[[]attestor/api.Var,attestor/api.Var] -/
noncomputable def cf90 : HF := ⟨(.seq (.reg _ _ _ h90x0)
 (.seq (.seq (.reg _ _ _ h90x1)
 (.cond (.t (.r p2)) (.reg _ _ _ h90x2)
 .skip))
 (.seq (.seq (.reg _ _ _ h90x3)
 (.seq (.reg _ _ _ h90x4)
 (.cond (.t (.r (.l (.l p1)))) (.reg _ _ _ h90x5)
 .skip)))
 (.seq (.reg _ _ _ h90x6)
 .ret)))), [(.tmp (.r p1))], [p0, p1], [(.l p2), (.l (.l p1)), (.r (.l p1)), (.l (.r p1)), (.r (.r p1)), (.l (.l p2)), (.r (.l p2)), (.l (.r p2)), (.r (.r p2)), (.l (.l (.l p1))), (.l (.r (.l p1))), (.r (.r (.l p1))), (.l (.l (.r p1))), (.r (.l (.r p1))), (.l (.r (.r p1))), (.r (.r (.r p1))), (.l (.l (.l p2))), (.r (.l (.l p2))), (.l (.r (.l p2))), (.r (.r (.l p2)))]⟩
noncomputable def r81x0 : RF := fun call ρ st K => K [(u6 0)] st
theorem h81x0 : RegOk [⟨(some (.r p2)), none, (.move (.c (.sc (.int .u64 (.ofNat (nat_lit 0))))))⟩] [(.r p2)] r81x0 := by
  intro call ρ st K
  kernel_rfl
noncomputable def r81x1 : RF := fun call ρ st K => call (nat_lit 50) [(ρ p0)] st (fun v0 st => K [v0] st)
theorem h81x1 : RegOk [⟨(some (.r (.l p1))), none, (.move (.t p0))⟩, ⟨(some (.l (.r p1))), none, (.call (nat_lit 50) [(.t (.r (.l p1)))])⟩, ⟨(some (.l (.l p1))), none, (.move (.t (.l (.r p1))))⟩] [(.l (.l p1))] r81x1 := by
  intro call ρ st K
  kernel_rfl
noncomputable def r81x2 : RF := fun call ρ st K => binK .eql (ρ (.l (.l p1))) (u6 0) (fun v => (fun v0 st => K [v0] st) v st)
theorem h81x2 : RegOk [⟨(some (.r (.r p1))), none, (.move (.t (.l (.l p1))))⟩, ⟨(some (.l (.l p2))), none, (.bin .eql (.t (.r (.r p1))) (.c (.sc (.int .u64 (.ofNat (nat_lit 0))))))⟩] [(.l (.l p2))] r81x2 := by
  intro call ρ st K
  kernel_rfl
noncomputable def r81x3 : RF := fun call ρ st K => K [(u6 0)] st
theorem h81x3 : RegOk [⟨(some (.r p2)), none, (.move (.c (.sc (.int .u64 (.ofNat (nat_lit 0))))))⟩] [(.r p2)] r81x3 := by
  intro call ρ st K
  kernel_rfl
noncomputable def r81x4 : RF := fun call ρ st K => (fun n0 mk => (fun v st => (fun v0 mk st => (fun v st => (fun v1 mk st => binK .rem v0 v1 (fun v => (fun v st => (fun v2 mk st => (fun v st => (fun v3 mk st => (fun v st => (fun v4 mk st => binK .rem v3 v4 (fun v => (fun v st => (fun v5 mk st => binK .mul v2 v5 (fun v => (fun v st => (fun v6 mk st => (fun v st => (fun v7 mk st => binK .rem v6 v7 (fun v => (fun v st => (fun v8 mk st => (fun v st => (fun v9 mk st => K [v9] st) v mk st) v8 st) v mk st) v st)) v mk st) (ρ (.l (.l p1))) st) v mk st) v st)) v mk st) v st)) v mk st) (ρ (.l (.l p1))) st) v mk st) (ρ p2) st) v mk st) v st)) v mk st) (ρ (.l (.l p1))) st) v mk st) (ρ p1) st) st.next mk0
theorem h81x4 : DrwOk [⟨(some (.r (.l p2))), none, (.move (.t p1)), (nat_lit 0), (nat_lit 1), (nat_lit 0)⟩, ⟨(some (.l (.r p2))), none, (.move (.t (.l (.l p1)))), (nat_lit 0), (nat_lit 2), (nat_lit 0)⟩, ⟨(some (.r (.r p2))), none, (.bin .rem (.t (.r (.l p2))) (.t (.l (.r p2)))), (nat_lit 0), (nat_lit 4), (nat_lit 3)⟩, ⟨(some (.l (.l (.l p1)))), none, (.move (.t p2)), (nat_lit 0), (nat_lit 8), (nat_lit 0)⟩, ⟨(some (.r (.l (.l p1)))), none, (.move (.t (.l (.l p1)))), (nat_lit 0), (nat_lit 16), (nat_lit 0)⟩, ⟨(some (.l (.r (.l p1)))), none, (.bin .rem (.t (.l (.l (.l p1)))) (.t (.r (.l (.l p1))))), (nat_lit 0), (nat_lit 32), (nat_lit 24)⟩, ⟨(some (.r (.r (.l p1)))), none, (.bin .mul (.t (.r (.r p2))) (.t (.l (.r (.l p1))))), (nat_lit 0), (nat_lit 64), (nat_lit 63)⟩, ⟨(some (.l (.l (.r p1)))), none, (.move (.t (.l (.l p1)))), (nat_lit 0), (nat_lit 128), (nat_lit 0)⟩, ⟨(some (.r (.l (.r p1)))), none, (.bin .rem (.t (.r (.r (.l p1)))) (.t (.l (.l (.r p1))))), (nat_lit 0), (nat_lit 256), (nat_lit 255)⟩, ⟨(some (.r p2)), none, (.move (.t (.r (.l (.r p1))))), (nat_lit 0), (nat_lit 512), (nat_lit 511)⟩] [(.r p2)] r81x4 := by
  intro call ρ st K
  kernel_rfl
/- attestor/field.Mul -/
noncomputable def cf81 : HF := ⟨(.seq (.reg _ _ _ h81x0)
 (.seq (.reg _ _ _ h81x1)
 (.seq (.seq (.reg _ _ _ h81x2)
 (.cond (.t (.l (.l p2))) (.seq (.reg _ _ _ h81x3)
 .ret)
 .skip))
 (.seq (.drw _ _ _ h81x4)
 .ret)))), [(.tmp (.r p2))], [p0, p1, p2], [(.r (.l p1)), (.l (.r p1)), (.r (.r p1)), (.r (.l p2)), (.l (.r p2)), (.r (.r p2)), (.l (.l (.l p1))), (.r (.l (.l p1))), (.l (.r (.l p1))), (.r (.r (.l p1))), (.l (.l (.r p1))), (.r (.l (.r p1)))]⟩
noncomputable def r50x0 : RF := fun call ρ st K => K [(u6 0)] st
theorem h50x0 : RegOk [⟨(some p2), none, (.move (.c (.sc (.int .u64 (.ofNat (nat_lit 0))))))⟩] [p2] r50x0 := by
  intro call ρ st K
  kernel_rfl
noncomputable def r50x1 : RF := fun call ρ st K => call (nat_lit 68) [(ρ p0)] st (fun v0 st => fld (nat_lit 0) (nat_lit 1) false v0 (fun v => (fun v1 st => K [v1] st) v st))
theorem h50x1 : RegOk [⟨(some (.l p1)), none, (.move (.t p0))⟩, ⟨(some (.r p1)), none, (.call (nat_lit 68) [(.t (.l p1))])⟩, ⟨(some (.l p2)), none, (.more (.field (nat_lit 0) (nat_lit 1) false (.t (.r p1))))⟩, ⟨(some p2), none, (.move (.t (.l p2)))⟩] [p2] r50x1 := by
  intro call ρ st K
  kernel_rfl
/- attestor/field.P -/
noncomputable def cf50 : HF := ⟨(.seq (.reg _ _ _ h50x0)
 (.seq (.reg _ _ _ h50x1)
 .ret)), [(.tmp p2)], [p0], [(.l p1), (.r p1), (.l p2)]⟩
noncomputable def r68x0 : RF := fun call ρ st K => alc st [(.int .u64 (.ofNat (nat_lit 0))), (.int .u64 (.ofNat (nat_lit 0))), (.int .i64 (.ofNat (nat_lit 0))), (.int .i64 (.ofNat (nat_lit 0))), .nils] (fun v0 st => K [v0] st)
theorem h68x0 : RegOk [⟨(some p2), none, (.more (.alloc [(.int .u64 (.ofNat (nat_lit 0))), (.int .u64 (.ofNat (nat_lit 0))), (.int .i64 (.ofNat (nat_lit 0))), (.int .i64 (.ofNat (nat_lit 0))), .nils]))⟩] [p2] r68x0 := by
  intro call ρ st K
  kernel_rfl
noncomputable def r68x1 : RF := fun call ρ st K => call (nat_lit 83) [(ρ p0)] st (fun v0 st => nott v0 (fun v => (fun v1 st => K [v1] st) v st))
theorem h68x1 : RegOk [⟨(some (.l p1)), none, (.move (.t p0))⟩, ⟨(some (.r p1)), none, (.call (nat_lit 83) [(.t (.l p1))])⟩, ⟨(some (.l p2)), none, (.more (.more (.more (.not (.t (.r p1))))))⟩] [(.l p2)] r68x1 := by
  intro call ρ st K
  kernel_rfl
noncomputable def r68x2 : RF := fun call ρ st K => h_op3_build [(.int .u64 (.ofNat (nat_lit 0))), (.int .u64 (.ofNat (nat_lit 0))), (.int .i64 (.ofNat (nat_lit 0))), (.int .i64 (.ofNat (nat_lit 0))), .nils] [] call ρ st (fun v0 st => sto st (nat_lit 5) (ρ p2) v0 ((fun _ st => K [] st) undefV))
theorem h68x2 : RegOk [⟨(some (.r p2)), none, (.more (.more (.build [(.int .u64 (.ofNat (nat_lit 0))), (.int .u64 (.ofNat (nat_lit 0))), (.int .i64 (.ofNat (nat_lit 0))), (.int .i64 (.ofNat (nat_lit 0))), .nils] [])))⟩, ⟨none, none, (.more (.store (nat_lit 5) (.t p2) (.t (.r p2))))⟩] [] r68x2 := by
  intro call ρ st K
  kernel_rfl
noncomputable def r68x3 : RF := fun call ρ st K => ixA (nat_lit 4) (nat_lit 5) (.sc (.ptr (nat_lit 1) (nat_lit 0))) (ρ p0) (fun v => (fun v0 st => ldN st (nat_lit 5) v0 (fun v => (fun v1 st => sto st (nat_lit 5) (ρ p2) v1 ((fun _ st => K [] st) undefV)) v st)) v st)
theorem h68x3 : RegOk [⟨(some (.l (.l p1))), none, (.move (.t p0))⟩, ⟨(some (.r (.l p1))), none, (.more (.idxA (nat_lit 4) (nat_lit 5) (.c (.sc (.ptr (nat_lit 1) (nat_lit 0)))) (.t (.l (.l p1)))))⟩, ⟨(some (.l (.r p1))), none, (.loadN (nat_lit 5) (.t (.r (.l p1))))⟩, ⟨none, none, (.more (.store (nat_lit 5) (.t p2) (.t (.l (.r p1)))))⟩] [] r68x3 := by
  intro call ρ st K
  kernel_rfl
/- attestor/field.of -/
noncomputable def cf68 : HF := ⟨(.seq (.reg _ _ _ h68x0)
 (.seq (.seq (.reg _ _ _ h68x1)
 (.cond (.t (.l p2)) (.seq (.reg _ _ _ h68x2)
 .ret)
 .skip))
 (.seq (.reg _ _ _ h68x3)
 .ret))), [(.cellN (nat_lit 5) p2)], [p0], [(.l p1), (.r p1), (.r p2), (.l (.l p1)), (.r (.l p1)), (.l (.r p1))]⟩
noncomputable def r83x0 : RF := fun call ρ st K => K [(.sc (.bool false))] st
theorem h83x0 : RegOk [⟨(some p2), none, (.move (.c (.sc (.bool false))))⟩] [p2] r83x0 := by
  intro call ρ st K
  kernel_rfl
noncomputable def r83x1 : RF := fun call ρ st K => binK .geq (ρ p0) (i6 0) (fun v => (fun v0 st => jn true v0 (fun j => (j) (ρ p0) st) st (fun v1 st => jn true v0 (fun j => binK .lss v1 (i6 4) (fun v => (j) v st)) st (fun v2 st => pck v0 v2 (.sc (.bool false)) (fun v => (fun v3 st => K [v3] st) v st)))) v st)
theorem h83x1 : RegOk [⟨(some (.l p1)), none, (.move (.t p0))⟩, ⟨(some (.r p1)), none, (.bin .geq (.t (.l p1)) (.c (.sc (.int .i64 (.ofNat (nat_lit 0))))))⟩, ⟨(some (.l p2)), none, (.move (.t (.r p1)))⟩, ⟨(some (.r p2)), (some ((.l p2), true)), (.move (.t p0))⟩, ⟨(some (.l (.l p1))), (some ((.l p2), true)), (.bin .lss (.t (.r p2)) (.c (.sc (.int .i64 (.ofNat (nat_lit 4))))))⟩, ⟨(some (.r (.l p1))), none, (.more (.pick (.t (.l p2)) (.t (.l (.l p1))) (.c (.sc (.bool false)))))⟩, ⟨(some p2), none, (.move (.t (.r (.l p1))))⟩] [p2] r83x1 := by
  intro call ρ st K
  kernel_rfl
/- attestor/field.Valid -/
noncomputable def cf83 : HF := ⟨(.seq (.reg _ _ _ h83x0)
 (.seq (.reg _ _ _ h83x1)
 .ret)), [(.tmp p2)], [p0], [(.l p1), (.r p1), (.l p2), (.r p2), (.l (.l p1)), (.r (.l p1))]⟩
noncomputable def r63x0 : RF := fun call ρ st K => K [(.sc .nils)] st
theorem h63x0 : RegOk [⟨(some p2), none, (.move (.c (.sc .nils)))⟩] [p2] r63x0 := by
  intro call ρ st K
  kernel_rfl
noncomputable def r63x1 : RF := fun call ρ st K => h_op3_build [(.int .u8 (.ofNat (nat_lit 0))), (.int .i64 (.ofNat (nat_lit 0)))] [((nat_lit 0), (nat_lit 1), (.c (u8 2))), ((nat_lit 1), (nat_lit 1), (.c (ρ p0)))] call ρ st (fun v0 st => h_op3_buildS (nat_lit 1) (nat_lit 2) [(.int .u8 (.ofNat (nat_lit 0))), (.int .i64 (.ofNat (nat_lit 0)))] [((nat_lit 0), (nat_lit 2), (.c v0))] call ρ st (fun v1 st => h_op3_build [(.int .u64 (.ofNat (nat_lit 0))), .nils] [((nat_lit 0), (nat_lit 1), (.c (u6 1))), ((nat_lit 1), (nat_lit 1), (.c v1))] call ρ st (fun v2 st => h_op3_buildS (nat_lit 1) (nat_lit 2) [(.int .u64 (.ofNat (nat_lit 0))), .nils] [((nat_lit 0), (nat_lit 2), (.c v2))] call ρ st (fun v3 st => K [v3] st))))
theorem h63x1 : RegOk [⟨(some (.l p1)), none, (.move (.t p0))⟩, ⟨(some (.r p1)), none, (.more (.more (.build [(.int .u8 (.ofNat (nat_lit 0))), (.int .i64 (.ofNat (nat_lit 0)))] [((nat_lit 0), (nat_lit 1), (.c (.sc (.int .u8 (.ofNat (nat_lit 2)))))), ((nat_lit 1), (nat_lit 1), (.t (.l p1)))])))⟩, ⟨(some (.l p2)), none, (.more (.more (.buildS (nat_lit 1) (nat_lit 2) [(.int .u8 (.ofNat (nat_lit 0))), (.int .i64 (.ofNat (nat_lit 0)))] [((nat_lit 0), (nat_lit 2), (.t (.r p1)))])))⟩, ⟨(some (.r p2)), none, (.more (.more (.build [(.int .u64 (.ofNat (nat_lit 0))), .nils] [((nat_lit 0), (nat_lit 1), (.c (.sc (.int .u64 (.ofNat (nat_lit 1)))))), ((nat_lit 1), (nat_lit 1), (.t (.l p2)))])))⟩, ⟨(some (.l (.l p1))), none, (.more (.more (.buildS (nat_lit 1) (nat_lit 2) [(.int .u64 (.ofNat (nat_lit 0))), .nils] [((nat_lit 0), (nat_lit 2), (.t (.r p2)))])))⟩, ⟨(some p2), none, (.move (.t (.l (.l p1))))⟩] [p2] r63x1 := by
  intro call ρ st K
  kernel_rfl
/- attestor/trace.then -/
noncomputable def cf63 : HF := ⟨(.seq (.reg _ _ _ h63x0)
 (.seq (.reg _ _ _ h63x1)
 .ret)), [(.tmp p2)], [p0], [(.l p1), (.r p1), (.l p2), (.r p2), (.l (.l p1))]⟩
noncomputable def r62x0 : RF := fun call ρ st K => K [(.sc .nils)] st
theorem h62x0 : RegOk [⟨(some p2), none, (.move (.c (.sc .nils)))⟩] [p2] r62x0 := by
  intro call ρ st K
  kernel_rfl
noncomputable def r62x1 : RF := fun call ρ st K => h_op3_build [(.int .u64 (.ofNat (nat_lit 0))), .nils] [((nat_lit 0), (nat_lit 1), (.c (ρ p0)))] call ρ st (fun v0 st => h_op3_buildS (nat_lit 1) (nat_lit 2) [(.int .u64 (.ofNat (nat_lit 0))), .nils] [((nat_lit 0), (nat_lit 2), (.c v0))] call ρ st (fun v1 st => K [v1] st))
theorem h62x1 : RegOk [⟨(some (.l p1)), none, (.move (.t p0))⟩, ⟨(some (.r p1)), none, (.more (.more (.build [(.int .u64 (.ofNat (nat_lit 0))), .nils] [((nat_lit 0), (nat_lit 1), (.t (.l p1)))])))⟩, ⟨(some (.l p2)), none, (.more (.more (.buildS (nat_lit 1) (nat_lit 2) [(.int .u64 (.ofNat (nat_lit 0))), .nils] [((nat_lit 0), (nat_lit 2), (.t (.r p1)))])))⟩, ⟨(some p2), none, (.move (.t (.l p2)))⟩] [p2] r62x1 := by
  intro call ρ st K
  kernel_rfl
/- attestor/trace.number -/
noncomputable def cf62 : HF := ⟨(.seq (.reg _ _ _ h62x0)
 (.seq (.reg _ _ _ h62x1)
 .ret)), [(.tmp p2)], [p0], [(.l p1), (.r p1), (.l p2)]⟩
noncomputable def r44x0 : RF := fun call ρ st K => call (nat_lit 38) [(i6 39)] st (fun v0 st => call (nat_lit 38) [(i6 39)] st (fun v1 st => h_op3_buildS (nat_lit 2) (nat_lit 1) [.nils, .nils] [((nat_lit 0), (nat_lit 1), (.c v0)), ((nat_lit 1), (nat_lit 1), (.c v1))] call ρ st (fun v2 st => call (nat_lit 58) [v2] st (fun v3 st => call (nat_lit 38) [(i6 39)] st (fun v4 st => h_op3_buildS (nat_lit 1) (nat_lit 1) [.nils] [((nat_lit 0), (nat_lit 1), (.c v4))] call ρ st (fun v5 st => call (nat_lit 39) [v3, v5] st (fun v6 st => call (nat_lit 38) [(i6 41)] st (fun v7 st => call (nat_lit 38) [(i6 38)] st (fun v8 st => call (nat_lit 38) [(i6 37)] st (fun v9 st => h_op3_buildS (nat_lit 2) (nat_lit 1) [.nils, .nils] [((nat_lit 0), (nat_lit 1), (.c v8)), ((nat_lit 1), (nat_lit 1), (.c v9))] call ρ st (fun v10 st => call (nat_lit 58) [v10] st (fun v11 st => h_op3_buildS (nat_lit 2) (nat_lit 1) [.nils, .nils] [((nat_lit 0), (nat_lit 1), (.c v7)), ((nat_lit 1), (nat_lit 1), (.c v11))] call ρ st (fun v12 st => call (nat_lit 55) [v12] st (fun v13 st => call (nat_lit 38) [(i6 37)] st (fun v14 st => h_op3_buildS (nat_lit 1) (nat_lit 1) [.nils] [((nat_lit 0), (nat_lit 1), (.c v14))] call ρ st (fun v15 st => call (nat_lit 39) [v13, v15] st (fun v16 st => h_op3_buildS (nat_lit 2) (nat_lit 1) [.nils, .nils] [((nat_lit 0), (nat_lit 1), (.c v6)), ((nat_lit 1), (nat_lit 1), (.c v16))] call ρ st (fun v17 st => call (nat_lit 37) [(ρ p0), (u8 1), v17] st (fun v18 st => K [] st)))))))))))))))))))
theorem h44x0 : RegOk [⟨(some p2), none, (.move (.t p0))⟩, ⟨(some (.l p1)), none, (.call (nat_lit 38) [(.c (.sc (.int .i64 (.ofNat (nat_lit 39)))))])⟩, ⟨(some (.r p1)), none, (.call (nat_lit 38) [(.c (.sc (.int .i64 (.ofNat (nat_lit 39)))))])⟩, ⟨(some (.l p2)), none, (.more (.more (.buildS (nat_lit 2) (nat_lit 1) [.nils, .nils] [((nat_lit 0), (nat_lit 1), (.t (.l p1))), ((nat_lit 1), (nat_lit 1), (.t (.r p1)))])))⟩, ⟨(some (.r p2)), none, (.call (nat_lit 58) [(.t (.l p2))])⟩, ⟨(some (.l (.l p1))), none, (.call (nat_lit 38) [(.c (.sc (.int .i64 (.ofNat (nat_lit 39)))))])⟩, ⟨(some (.r (.l p1))), none, (.more (.more (.buildS (nat_lit 1) (nat_lit 1) [.nils] [((nat_lit 0), (nat_lit 1), (.t (.l (.l p1))))])))⟩, ⟨(some (.l (.r p1))), none, (.call (nat_lit 39) [(.t (.r p2)), (.t (.r (.l p1)))])⟩, ⟨(some (.r (.r p1))), none, (.call (nat_lit 38) [(.c (.sc (.int .i64 (.ofNat (nat_lit 41)))))])⟩, ⟨(some (.l (.l p2))), none, (.call (nat_lit 38) [(.c (.sc (.int .i64 (.ofNat (nat_lit 38)))))])⟩, ⟨(some (.r (.l p2))), none, (.call (nat_lit 38) [(.c (.sc (.int .i64 (.ofNat (nat_lit 37)))))])⟩, ⟨(some (.l (.r p2))), none, (.more (.more (.buildS (nat_lit 2) (nat_lit 1) [.nils, .nils] [((nat_lit 0), (nat_lit 1), (.t (.l (.l p2)))), ((nat_lit 1), (nat_lit 1), (.t (.r (.l p2))))])))⟩, ⟨(some (.r (.r p2))), none, (.call (nat_lit 58) [(.t (.l (.r p2)))])⟩, ⟨(some (.l (.l (.l p1)))), none, (.more (.more (.buildS (nat_lit 2) (nat_lit 1) [.nils, .nils] [((nat_lit 0), (nat_lit 1), (.t (.r (.r p1)))), ((nat_lit 1), (nat_lit 1), (.t (.r (.r p2))))])))⟩, ⟨(some (.r (.l (.l p1)))), none, (.call (nat_lit 55) [(.t (.l (.l (.l p1))))])⟩, ⟨(some (.l (.r (.l p1)))), none, (.call (nat_lit 38) [(.c (.sc (.int .i64 (.ofNat (nat_lit 37)))))])⟩, ⟨(some (.r (.r (.l p1)))), none, (.more (.more (.buildS (nat_lit 1) (nat_lit 1) [.nils] [((nat_lit 0), (nat_lit 1), (.t (.l (.r (.l p1)))))])))⟩, ⟨(some (.l (.l (.r p1)))), none, (.call (nat_lit 39) [(.t (.r (.l (.l p1)))), (.t (.r (.r (.l p1))))])⟩, ⟨(some (.r (.l (.r p1)))), none, (.more (.more (.buildS (nat_lit 2) (nat_lit 1) [.nils, .nils] [((nat_lit 0), (nat_lit 1), (.t (.l (.r p1)))), ((nat_lit 1), (nat_lit 1), (.t (.l (.l (.r p1)))))])))⟩, ⟨(some (.l (.r (.r p1)))), none, (.call (nat_lit 37) [(.t p2), (.c (.sc (.int .u8 (.ofNat (nat_lit 1))))), (.t (.r (.l (.r p1))))])⟩] [] r44x0 := by
  intro call ρ st K
  kernel_rfl
/- (*attestor/trace.list).memory -/
noncomputable def cf44 : HF := ⟨(.reg _ _ _ h44x0), [], [p0], [p2, (.l p1), (.r p1), (.l p2), (.r p2), (.l (.l p1)), (.r (.l p1)), (.l (.r p1)), (.r (.r p1)), (.l (.l p2)), (.r (.l p2)), (.l (.r p2)), (.r (.r p2)), (.l (.l (.l p1))), (.r (.l (.l p1))), (.l (.r (.l p1))), (.r (.r (.l p1))), (.l (.l (.r p1))), (.r (.l (.r p1))), (.l (.r (.r p1)))]⟩
noncomputable def r55x0 : RF := fun call ρ st K => K [(.sc .nils)] st
theorem h55x0 : RegOk [⟨(some p2), none, (.move (.c (.sc .nils)))⟩] [p2] r55x0 := by
  intro call ρ st K
  kernel_rfl
noncomputable def r55x1 : RF := fun call ρ st K => call (nat_lit 79) [(ρ p0)] st (fun v0 st => K [v0] st)
theorem h55x1 : RegOk [⟨(some (.l p1)), none, (.move (.t p0))⟩, ⟨(some (.r p1)), none, (.call (nat_lit 79) [(.t (.l p1))])⟩, ⟨(some p2), none, (.move (.t (.r p1)))⟩] [p2] r55x1 := by
  intro call ρ st K
  kernel_rfl
/- attestor/trace.add -/
noncomputable def cf55 : HF := ⟨(.seq (.reg _ _ _ h55x0)
 (.seq (.reg _ _ _ h55x1)
 .ret)), [(.tmp p2)], [p0], [(.l p1), (.r p1)]⟩
noncomputable def r79x0 : RF := fun call ρ st K => K [(.sc .nils)] st
theorem h79x0 : RegOk [⟨(some p2), none, (.move (.c (.sc .nils)))⟩] [p2] r79x0 := by
  intro call ρ st K
  kernel_rfl
noncomputable def r79x1 : RF := fun call ρ st K => K [(i6 0)] st
theorem h79x1 : RegOk [⟨(some (.l p1)), none, (.move (.c (.sc (.int .i64 (.ofNat (nat_lit 0))))))⟩] [(.l p1)] r79x1 := by
  intro call ρ st K
  kernel_rfl
noncomputable def r79x2 : RF := fun call ρ st K => lnS (ρ p0) (fun v => (fun v0 st => K [(ρ p0), v0, (i6 0)] st) v st)
theorem h79x2 : RegOk [⟨(some (.l (.r p1))), none, (.move (.t p0))⟩, ⟨(some (.r (.r p1))), none, (.more (.len (.t (.l (.r p1)))))⟩, ⟨(some (.l (.l p2))), none, (.move (.c (.sc (.int .i64 (.ofNat (nat_lit 0))))))⟩] [(.l (.r p1)), (.r (.r p1)), (.l (.l p2))] r79x2 := by
  intro call ρ st K
  kernel_rfl
noncomputable def r79x3 : RF := fun call ρ st K => binK .lss (ρ (.l (.l p2))) (ρ (.r (.r p1))) (fun v => (fun v0 st => K [v0] st) v st)
theorem h79x3 : RegOk [⟨(some (.r (.l p2))), none, (.bin .lss (.t (.l (.l p2))) (.t (.r (.r p1))))⟩] [(.r (.l p2))] r79x3 := by
  intro call ρ st K
  kernel_rfl
noncomputable def r79x4 : RF := fun call ρ st K => ixs (nat_lit 1) (ρ (.l (.r p1))) (ρ (.l (.l p2))) (fun v => (fun v0 st => ld1 st v0 (fun v => (fun v1 st => K [v1] st) v st)) v st)
theorem h79x4 : RegOk [⟨(some (.l (.r p2))), none, (.idxS (nat_lit 1) (.t (.l (.r p1))) (.t (.l (.l p2))))⟩, ⟨(some (.r (.r p2))), none, (.load1 (.t (.l (.r p2))))⟩, ⟨(some (.l p2)), none, (.move (.t (.r (.r p2))))⟩] [(.l p2)] r79x4 := by
  intro call ρ st K
  kernel_rfl
noncomputable def r79x5 : RF := fun call ρ st K => lnS (ρ (.l p2)) (fun v => (fun v0 st => binK .add (ρ (.l p1)) v0 (fun v => (fun v1 st => K [v1] st) v st)) v st)
theorem h79x5 : RegOk [⟨(some (.l (.l (.l p1)))), none, (.move (.t (.l p1)))⟩, ⟨(some (.r (.l (.l p1)))), none, (.move (.t (.l p2)))⟩, ⟨(some (.l (.r (.l p1)))), none, (.more (.len (.t (.r (.l (.l p1))))))⟩, ⟨(some (.r (.r (.l p1)))), none, (.bin .add (.t (.l (.l (.l p1)))) (.t (.l (.r (.l p1)))))⟩, ⟨(some (.l p1)), none, (.move (.t (.r (.r (.l p1)))))⟩] [(.l p1)] r79x5 := by
  intro call ρ st K
  kernel_rfl
noncomputable def r79x6 : RF := fun call ρ st K => binK .lss (ρ (.l p1)) (i6 0) (fun v => (fun v0 st => K [v0] st) v st)
theorem h79x6 : RegOk [⟨(some (.l (.l (.r p1)))), none, (.move (.t (.l p1)))⟩, ⟨(some (.r (.l (.r p1)))), none, (.bin .lss (.t (.l (.l (.r p1)))) (.c (.sc (.int .i64 (.ofNat (nat_lit 0))))))⟩] [(.r (.l (.r p1)))] r79x6 := by
  intro call ρ st K
  kernel_rfl
noncomputable def r79x7 : RF := fun call ρ st K => h_op4_iface (nat_lit 9) (.c (.sc (.lit (.string ⟨#[108, 101, 110, 32, 111, 117, 116, 32, 111, 102, 32, 114, 97, 110, 103, 101]⟩)))) call ρ st (fun v0 st => h_op4_bad (nat_lit 102) call ρ st (fun _ st => K [] st))
theorem h79x7 : RegOk [⟨(some (.l (.r (.r p1)))), none, (.more (.more (.more (.iface (nat_lit 9) (.c (.sc (.lit (.string ⟨#[108, 101, 110, 32, 111, 117, 116, 32, 111, 102, 32, 114, 97, 110, 103, 101]⟩))))))))⟩, ⟨none, none, (.more (.more (.more (.bad (nat_lit 102)))))⟩] [] r79x7 := by
  intro call ρ st K
  kernel_rfl
noncomputable def r79x8 : RF := fun call ρ st K => binK .add (ρ (.l (.l p2))) (i6 1) (fun v => (fun v0 st => K [v0] st) v st)
theorem h79x8 : RegOk [⟨(some (.r (.r (.r p1)))), none, (.bin .add (.t (.l (.l p2))) (.c (.sc (.int .i64 (.ofNat (nat_lit 1))))))⟩, ⟨(some (.l (.l p2))), none, (.move (.t (.r (.r (.r p1)))))⟩] [(.l (.l p2))] r79x8 := by
  intro call ρ st K
  kernel_rfl
noncomputable def r79x9 : RF := fun call ρ st K => call (nat_lit 89) [(.sc .nils), (ρ (.l p1))] st (fun v0 st => K [v0] st)
theorem h79x9 : RegOk [⟨(some (.l (.l (.l p2)))), none, (.move (.t (.l p1)))⟩, ⟨(some (.r (.l (.l p2)))), none, (.call (nat_lit 89) [(.c (.sc .nils)), (.t (.l (.l (.l p2))))])⟩, ⟨(some (.r p2)), none, (.move (.t (.r (.l (.l p2)))))⟩] [(.r p2)] r79x9 := by
  intro call ρ st K
  kernel_rfl
noncomputable def r79x10 : RF := fun call ρ st K => lnS (ρ p0) (fun v => (fun v0 st => K [(ρ p0), v0, (i6 0)] st) v st)
theorem h79x10 : RegOk [⟨(some (.l (.r (.l p2)))), none, (.move (.t p0))⟩, ⟨(some (.r (.r (.l p2)))), none, (.more (.len (.t (.l (.r (.l p2))))))⟩, ⟨(some (.l (.l (.r p2)))), none, (.move (.c (.sc (.int .i64 (.ofNat (nat_lit 0))))))⟩] [(.l (.r (.l p2))), (.r (.r (.l p2))), (.l (.l (.r p2)))] r79x10 := by
  intro call ρ st K
  kernel_rfl
noncomputable def r79x11 : RF := fun call ρ st K => binK .lss (ρ (.l (.l (.r p2)))) (ρ (.r (.r (.l p2)))) (fun v => (fun v0 st => K [v0] st) v st)
theorem h79x11 : RegOk [⟨(some (.r (.l (.r p2)))), none, (.bin .lss (.t (.l (.l (.r p2)))) (.t (.r (.r (.l p2)))))⟩] [(.r (.l (.r p2)))] r79x11 := by
  intro call ρ st K
  kernel_rfl
noncomputable def r79x12 : RF := fun call ρ st K => ixs (nat_lit 1) (ρ (.l (.r (.l p2)))) (ρ (.l (.l (.r p2)))) (fun v => (fun v0 st => ld1 st v0 (fun v => (fun v1 st => K [v1] st) v st)) v st)
theorem h79x12 : RegOk [⟨(some (.l (.r (.r p2)))), none, (.idxS (nat_lit 1) (.t (.l (.r (.l p2)))) (.t (.l (.l (.r p2)))))⟩, ⟨(some (.r (.r (.r p2)))), none, (.load1 (.t (.l (.r (.r p2)))))⟩, ⟨(some (.r (.l p1))), none, (.move (.t (.r (.r (.r p2)))))⟩] [(.r (.l p1))] r79x12 := by
  intro call ρ st K
  kernel_rfl
noncomputable def r79x13 : RF := fun call ρ st K => h_op3_append (nat_lit 2) (nat_lit 32) (.c (ρ (.r p2))) (.c (ρ (.r (.l p1)))) call ρ st (fun v0 st => K [v0] st)
theorem h79x13 : RegOk [⟨(some (.l (.l (.l (.l p1))))), none, (.move (.t (.r p2)))⟩, ⟨(some (.r (.l (.l (.l p1))))), none, (.move (.t (.r (.l p1))))⟩, ⟨(some (.l (.r (.l (.l p1))))), none, (.more (.more (.append (nat_lit 2) (nat_lit 32) (.t (.l (.l (.l (.l p1))))) (.t (.r (.l (.l (.l p1))))))))⟩, ⟨(some (.r p2)), none, (.move (.t (.l (.r (.l (.l p1))))))⟩] [(.r p2)] r79x13 := by
  intro call ρ st K
  kernel_rfl
noncomputable def r79x14 : RF := fun call ρ st K => binK .add (ρ (.l (.l (.r p2)))) (i6 1) (fun v => (fun v0 st => K [v0] st) v st)
theorem h79x14 : RegOk [⟨(some (.r (.r (.l (.l p1))))), none, (.bin .add (.t (.l (.l (.r p2)))) (.c (.sc (.int .i64 (.ofNat (nat_lit 1))))))⟩, ⟨(some (.l (.l (.r p2)))), none, (.move (.t (.r (.r (.l (.l p1))))))⟩] [(.l (.l (.r p2)))] r79x14 := by
  intro call ρ st K
  kernel_rfl
noncomputable def r79x15 : RF := fun call ρ st K => K [(ρ (.r p2))] st
theorem h79x15 : RegOk [⟨(some (.l (.l (.r (.l p1))))), none, (.move (.t (.r p2)))⟩, ⟨(some p2), none, (.move (.t (.l (.l (.r (.l p1))))))⟩] [p2] r79x15 := by
  intro call ρ st K
  kernel_rfl
/- slices.Concat[attestor/trace.sum,attestor/api.Mono] -/
noncomputable def cf79 : HF := ⟨(.seq (.reg _ _ _ h79x0)
 (.seq (.reg _ _ _ h79x1)
 (.seq (.seq (.reg _ _ _ h79x2)
 (.block (nat_lit 0) (.loop (.seq (.reg _ _ _ h79x3)
 (.seq (.cond (.t (.r (.l p2))) .skip
 (.exit (nat_lit 0)))
 (.seq (.block (nat_lit 1) (.seq (.reg _ _ _ h79x4)
 (.seq (.reg _ _ _ h79x5)
 (.seq (.reg _ _ _ h79x6)
 (.cond (.t (.r (.l (.r p1)))) (.reg _ _ _ h79x7)
 .skip)))))
 (.reg _ _ _ h79x8)))))))
 (.seq (.reg _ _ _ h79x9)
 (.seq (.seq (.reg _ _ _ h79x10)
 (.block (nat_lit 2) (.loop (.seq (.reg _ _ _ h79x11)
 (.seq (.cond (.t (.r (.l (.r p2)))) .skip
 (.exit (nat_lit 2)))
 (.seq (.block (nat_lit 3) (.seq (.reg _ _ _ h79x12)
 (.reg _ _ _ h79x13)))
 (.reg _ _ _ h79x14)))))))
 (.seq (.reg _ _ _ h79x15)
 .ret)))))), [(.tmp p2)], [p0], [(.l (.r p2)), (.r (.r p2)), (.l (.l (.l p1))), (.r (.l (.l p1))), (.l (.r (.l p1))), (.r (.r (.l p1))), (.l (.l (.r p1))), (.l (.r (.r p1))), (.r (.r (.r p1))), (.l (.l (.l p2))), (.r (.l (.l p2))), (.l (.r (.r p2))), (.r (.r (.r p2))), (.l (.l (.l (.l p1)))), (.r (.l (.l (.l p1)))), (.l (.r (.l (.l p1)))), (.r (.r (.l (.l p1)))), (.l (.l (.r (.l p1))))]⟩
noncomputable def r89x0 : RF := fun call ρ st K => K [(.sc .nils)] st
theorem h89x0 : RegOk [⟨(some (.r p1)), none, (.move (.c (.sc .nils)))⟩] [(.r p1)] r89x0 := by
  intro call ρ st K
  kernel_rfl
noncomputable def r89x1 : RF := fun call ρ st K => binK .lss (ρ p1) (i6 0) (fun v => (fun v0 st => K [v0] st) v st)
theorem h89x1 : RegOk [⟨(some (.l p2)), none, (.move (.t p1))⟩, ⟨(some (.r p2)), none, (.bin .lss (.t (.l p2)) (.c (.sc (.int .i64 (.ofNat (nat_lit 0))))))⟩] [(.r p2)] r89x1 := by
  intro call ρ st K
  kernel_rfl
noncomputable def r89x2 : RF := fun call ρ st K => h_op4_iface (nat_lit 9) (.c (.sc (.lit (.string ⟨#[99, 97, 110, 110, 111, 116, 32, 98, 101, 32, 110, 101, 103, 97, 116, 105, 118, 101]⟩)))) call ρ st (fun v0 st => h_op4_bad (nat_lit 102) call ρ st (fun _ st => K [] st))
theorem h89x2 : RegOk [⟨(some (.l (.l p1))), none, (.more (.more (.more (.iface (nat_lit 9) (.c (.sc (.lit (.string ⟨#[99, 97, 110, 110, 111, 116, 32, 98, 101, 32, 110, 101, 103, 97, 116, 105, 118, 101]⟩))))))))⟩, ⟨none, none, (.more (.more (.more (.bad (nat_lit 102)))))⟩] [] r89x2 := by
  intro call ρ st K
  kernel_rfl
noncomputable def r89x3 : RF := fun call ρ st K => h_op4_capOf (.c (ρ p0)) call ρ st (fun v0 st => lnS (ρ p0) (fun v => (fun v1 st => binK .sub v0 v1 (fun v => (fun v2 st => binK .sub (ρ p1) v2 (fun v => (fun v3 st => K [v3] st) v st)) v st)) v st))
theorem h89x3 : RegOk [⟨(some (.r (.l p1))), none, (.move (.t p1))⟩, ⟨(some (.l (.r p1))), none, (.move (.t p0))⟩, ⟨(some (.r (.r p1))), none, (.more (.more (.more (.capOf (.t (.l (.r p1)))))))⟩, ⟨(some (.l (.l p2))), none, (.move (.t p0))⟩, ⟨(some (.r (.l p2))), none, (.more (.len (.t (.l (.l p2)))))⟩, ⟨(some (.l (.r p2))), none, (.bin .sub (.t (.r (.r p1))) (.t (.r (.l p2))))⟩, ⟨(some (.r (.r p2))), none, (.bin .sub (.t (.r (.l p1))) (.t (.l (.r p2))))⟩, ⟨(some p1), none, (.move (.t (.r (.r p2))))⟩] [p1] r89x3 := by
  intro call ρ st K
  kernel_rfl
noncomputable def r89x4 : RF := fun call ρ st K => binK .gtr (ρ p1) (i6 0) (fun v => (fun v0 st => K [v0] st) v st)
theorem h89x4 : RegOk [⟨(some (.l (.l (.l p1)))), none, (.move (.t p1))⟩, ⟨(some (.r (.l (.l p1)))), none, (.bin .gtr (.t (.l (.l (.l p1)))) (.c (.sc (.int .i64 (.ofNat (nat_lit 0))))))⟩] [(.r (.l (.l p1)))] r89x4 := by
  intro call ρ st K
  kernel_rfl
noncomputable def r89x5 : RF := fun call ρ st K => h_op4_capOf (.c (ρ p0)) call ρ st (fun v0 st => h_op3_sliceS (nat_lit 2) (.c (ρ p0)) none (some (.c v0)) none call ρ st (fun v1 st => h_op3_appendZ (nat_lit 2) (nat_lit 32) [(.int .u64 (.ofNat (nat_lit 0))), .nils] (.c v1) (.c (ρ p1)) call ρ st (fun v2 st => lnS (ρ p0) (fun v => (fun v3 st => h_op3_sliceS (nat_lit 2) (.c v2) none (some (.c v3)) none call ρ st (fun v4 st => K [v4] st)) v st))))
theorem h89x5 : RegOk [⟨(some (.l (.r (.l p1)))), none, (.move (.t p0))⟩, ⟨(some (.r (.r (.l p1)))), none, (.move (.t p0))⟩, ⟨(some (.l (.l (.r p1)))), none, (.more (.more (.more (.capOf (.t (.r (.r (.l p1))))))))⟩, ⟨(some (.r (.l (.r p1)))), none, (.more (.more (.sliceS (nat_lit 2) (.t (.l (.r (.l p1)))) none (some (.t (.l (.l (.r p1))))) none)))⟩, ⟨(some (.l (.r (.r p1)))), none, (.move (.t p1))⟩, ⟨(some (.r (.r (.r p1)))), none, (.more (.more (.appendZ (nat_lit 2) (nat_lit 32) [(.int .u64 (.ofNat (nat_lit 0))), .nils] (.t (.r (.l (.r p1)))) (.t (.l (.r (.r p1)))))))⟩, ⟨(some (.l (.l (.l p2)))), none, (.move (.t p0))⟩, ⟨(some (.r (.l (.l p2)))), none, (.more (.len (.t (.l (.l (.l p2))))))⟩, ⟨(some (.l (.r (.l p2)))), none, (.more (.more (.sliceS (nat_lit 2) (.t (.r (.r (.r p1)))) none (some (.t (.r (.l (.l p2))))) none)))⟩, ⟨(some p0), none, (.move (.t (.l (.r (.l p2)))))⟩] [p0] r89x5 := by
  intro call ρ st K
  kernel_rfl
noncomputable def r89x6 : RF := fun call ρ st K => K [(ρ p0)] st
theorem h89x6 : RegOk [⟨(some (.r (.r (.l p2)))), none, (.move (.t p0))⟩, ⟨(some (.r p1)), none, (.move (.t (.r (.r (.l p2)))))⟩] [(.r p1)] r89x6 := by
  intro call ρ st K
  kernel_rfl
/- slices.Grow[attestor/trace.sum,attestor/api.Mono] -/
noncomputable def cf89 : HF := ⟨(.seq (.reg _ _ _ h89x0)
 (.seq (.seq (.reg _ _ _ h89x1)
 (.cond (.t (.r p2)) (.reg _ _ _ h89x2)
 .skip))
 (.seq (.seq (.reg _ _ _ h89x3)
 (.seq (.reg _ _ _ h89x4)
 (.cond (.t (.r (.l (.l p1)))) (.reg _ _ _ h89x5)
 .skip)))
 (.seq (.reg _ _ _ h89x6)
 .ret)))), [(.tmp (.r p1))], [p0, p1], [(.l p2), (.l (.l p1)), (.r (.l p1)), (.l (.r p1)), (.r (.r p1)), (.l (.l p2)), (.r (.l p2)), (.l (.r p2)), (.r (.r p2)), (.l (.l (.l p1))), (.l (.r (.l p1))), (.r (.r (.l p1))), (.l (.l (.r p1))), (.r (.l (.r p1))), (.l (.r (.r p1))), (.r (.r (.r p1))), (.l (.l (.l p2))), (.r (.l (.l p2))), (.l (.r (.l p2))), (.r (.r (.l p2)))]⟩
noncomputable def r43x0 : RF := fun call ρ st K => (fun v0 => K [v0] st) (.sc (.fn (nat_lit 60)))
theorem h43x0 : RegOk [⟨(some p2), none, (.move (.c (.sc (.fn (nat_lit 60)))))⟩] [p2] r43x0 := by
  intro call ρ st K
  kernel_rfl
noncomputable def r43x1 : RF := fun call ρ st K => call (nat_lit 61) [(i6 28), (i6 29)] st (fun v0 st => K [v0] st)
theorem h43x1 : RegOk [⟨(some (.r p2)), none, (.call (nat_lit 61) [(.c (.sc (.int .i64 (.ofNat (nat_lit 28))))), (.c (.sc (.int .i64 (.ofNat (nat_lit 29)))))])⟩, ⟨(some (.l p1)), none, (.move (.t (.r p2)))⟩] [(.l p1)] r43x1 := by
  intro call ρ st K
  kernel_rfl
noncomputable def r43x2 : RF := fun call ρ st K => call (nat_lit 56) [(ρ (.l p1)), (u6 256)] st (fun v0 st => K [v0] st)
theorem h43x2 : RegOk [⟨(some (.l (.l p1))), none, (.move (.t (.l p1)))⟩, ⟨(some (.r (.l p1))), none, (.call (nat_lit 56) [(.t (.l (.l p1))), (.c (.sc (.int .u64 (.ofNat (nat_lit 256)))))])⟩, ⟨(some (.r p1)), none, (.move (.t (.r (.l p1))))⟩] [(.r p1)] r43x2 := by
  intro call ρ st K
  kernel_rfl
noncomputable def r43x3 : RF := fun call ρ st K => call (nat_lit 62) [(u6 1)] st (fun v0 st => K [v0] st)
theorem h43x3 : RegOk [⟨(some (.l (.r p1))), none, (.call (nat_lit 62) [(.c (.sc (.int .u64 (.ofNat (nat_lit 1)))))])⟩, ⟨(some (.l p2)), none, (.move (.t (.l (.r p1))))⟩] [(.l p2)] r43x3 := by
  intro call ρ st K
  kernel_rfl
noncomputable def r43x4 : RF := fun call ρ st K => call (nat_lit 38) [(i6 25)] st (fun v0 st => call (nat_lit 61) [(i6 26), (i6 27)] st (fun v1 st => h_op3_buildS (nat_lit 1) (nat_lit 1) [.nils] [((nat_lit 0), (nat_lit 1), (.c v1))] call ρ st (fun v2 st => call (nat_lit 39) [v0, v2] st (fun v3 st => h_op4_callV (.c (ρ p2)) [(.c (u8 1))] call ρ st (fun v4 st => call (nat_lit 38) [(i6 25)] st (fun v5 st => call (nat_lit 38) [(i6 22)] st (fun v6 st => h_op3_buildS (nat_lit 1) (nat_lit 1) [.nils] [((nat_lit 0), (nat_lit 1), (.c v6))] call ρ st (fun v7 st => call (nat_lit 39) [v5, v7] st (fun v8 st => h_op3_buildS (nat_lit 2) (nat_lit 1) [.nils, .nils] [((nat_lit 0), (nat_lit 1), (.c v4)), ((nat_lit 1), (nat_lit 1), (.c v8))] call ρ st (fun v9 st => call (nat_lit 58) [v9] st (fun v10 st => h_op4_callV (.c (ρ p2)) [(.c (u8 2))] call ρ st (fun v11 st => call (nat_lit 38) [(i6 25)] st (fun v12 st => call (nat_lit 38) [(i6 24)] st (fun v13 st => h_op3_buildS (nat_lit 1) (nat_lit 1) [.nils] [((nat_lit 0), (nat_lit 1), (.c v13))] call ρ st (fun v14 st => call (nat_lit 39) [v12, v14] st (fun v15 st => h_op3_buildS (nat_lit 2) (nat_lit 1) [.nils, .nils] [((nat_lit 0), (nat_lit 1), (.c v11)), ((nat_lit 1), (nat_lit 1), (.c v15))] call ρ st (fun v16 st => call (nat_lit 58) [v16] st (fun v17 st => h_op4_callV (.c (ρ p2)) [(.c (u8 3))] call ρ st (fun v18 st => call (nat_lit 38) [(i6 23)] st (fun v19 st => call (nat_lit 38) [(i6 24)] st (fun v20 st => h_op3_buildS (nat_lit 2) (nat_lit 1) [.nils, .nils] [((nat_lit 0), (nat_lit 1), (.c v19)), ((nat_lit 1), (nat_lit 1), (.c v20))] call ρ st (fun v21 st => call (nat_lit 55) [v21] st (fun v22 st => call (nat_lit 38) [(i6 25)] st (fun v23 st => h_op3_buildS (nat_lit 2) (nat_lit 1) [.nils, .nils] [((nat_lit 0), (nat_lit 1), (.c v23)), ((nat_lit 1), (nat_lit 1), (.c (ρ (.r p1))))] call ρ st (fun v24 st => call (nat_lit 39) [v22, v24] st (fun v25 st => h_op3_buildS (nat_lit 2) (nat_lit 1) [.nils, .nils] [((nat_lit 0), (nat_lit 1), (.c v18)), ((nat_lit 1), (nat_lit 1), (.c v25))] call ρ st (fun v26 st => call (nat_lit 58) [v26] st (fun v27 st => h_op4_callV (.c (ρ p2)) [(.c (u8 4))] call ρ st (fun v28 st => call (nat_lit 38) [(i6 23)] st (fun v29 st => h_op3_buildS (nat_lit 2) (nat_lit 1) [.nils, .nils] [((nat_lit 0), (nat_lit 1), (.c v29)), ((nat_lit 1), (nat_lit 1), (.c (ρ (.r p1))))] call ρ st (fun v30 st => call (nat_lit 55) [v30] st (fun v31 st => call (nat_lit 38) [(i6 24)] st (fun v32 st => call (nat_lit 38) [(i6 25)] st (fun v33 st => h_op3_buildS (nat_lit 2) (nat_lit 1) [.nils, .nils] [((nat_lit 0), (nat_lit 1), (.c v32)), ((nat_lit 1), (nat_lit 1), (.c v33))] call ρ st (fun v34 st => call (nat_lit 39) [v31, v34] st (fun v35 st => h_op3_buildS (nat_lit 2) (nat_lit 1) [.nils, .nils] [((nat_lit 0), (nat_lit 1), (.c v28)), ((nat_lit 1), (nat_lit 1), (.c v35))] call ρ st (fun v36 st => call (nat_lit 58) [v36] st (fun v37 st => h_op4_callV (.c (ρ p2)) [(.c (u8 5))] call ρ st (fun v38 st => call (nat_lit 38) [(i6 23)] st (fun v39 st => call (nat_lit 38) [(i6 24)] st (fun v40 st => h_op3_buildS (nat_lit 2) (nat_lit 1) [.nils, .nils] [((nat_lit 0), (nat_lit 1), (.c v39)), ((nat_lit 1), (nat_lit 1), (.c v40))] call ρ st (fun v41 st => call (nat_lit 58) [v41] st (fun v42 st => call (nat_lit 38) [(i6 25)] st (fun v43 st => h_op3_buildS (nat_lit 2) (nat_lit 1) [.nils, .nils] [((nat_lit 0), (nat_lit 1), (.c v43)), ((nat_lit 1), (nat_lit 1), (.c (ρ (.r p1))))] call ρ st (fun v44 st => call (nat_lit 39) [v42, v44] st (fun v45 st => h_op3_buildS (nat_lit 2) (nat_lit 1) [.nils, .nils] [((nat_lit 0), (nat_lit 1), (.c v38)), ((nat_lit 1), (nat_lit 1), (.c v45))] call ρ st (fun v46 st => call (nat_lit 58) [v46] st (fun v47 st => h_op4_callV (.c (ρ p2)) [(.c (u8 6))] call ρ st (fun v48 st => call (nat_lit 38) [(i6 25)] st (fun v49 st => call (nat_lit 38) [(i6 34)] st (fun v50 st => h_op3_buildS (nat_lit 1) (nat_lit 1) [.nils] [((nat_lit 0), (nat_lit 1), (.c v50))] call ρ st (fun v51 st => call (nat_lit 39) [v49, v51] st (fun v52 st => h_op3_buildS (nat_lit 2) (nat_lit 1) [.nils, .nils] [((nat_lit 0), (nat_lit 1), (.c v48)), ((nat_lit 1), (nat_lit 1), (.c v52))] call ρ st (fun v53 st => call (nat_lit 58) [v53] st (fun v54 st => call (nat_lit 41) [(i6 5), (i6 6)] st (fun v55 st => h_op3_buildS (nat_lit 1) (nat_lit 1) [.nils] [((nat_lit 0), (nat_lit 1), (.c v55))] call ρ st (fun v56 st => call (nat_lit 39) [(ρ (.l p2)), v56] st (fun v57 st => call (nat_lit 38) [(i6 25)] st (fun v58 st => call (nat_lit 38) [(i6 23)] st (fun v59 st => h_op3_buildS (nat_lit 1) (nat_lit 1) [.nils] [((nat_lit 0), (nat_lit 1), (.c v59))] call ρ st (fun v60 st => call (nat_lit 39) [v58, v60] st (fun v61 st => h_op3_buildS (nat_lit 2) (nat_lit 1) [.nils, .nils] [((nat_lit 0), (nat_lit 1), (.c v57)), ((nat_lit 1), (nat_lit 1), (.c v61))] call ρ st (fun v62 st => call (nat_lit 58) [v62] st (fun v63 st => h_op4_callV (.c (ρ p2)) [(.c (u8 3))] call ρ st (fun v64 st => h_op4_callV (.c (ρ p2)) [(.c (u8 4))] call ρ st (fun v65 st => h_op4_callV (.c (ρ p2)) [(.c (u8 5))] call ρ st (fun v66 st => h_op3_buildS (nat_lit 3) (nat_lit 1) [.nils, .nils, .nils] [((nat_lit 0), (nat_lit 1), (.c v64)), ((nat_lit 1), (nat_lit 1), (.c v65)), ((nat_lit 2), (nat_lit 1), (.c v66))] call ρ st (fun v67 st => call (nat_lit 39) [(ρ (.l p2)), v67] st (fun v68 st => h_op3_buildS (nat_lit 2) (nat_lit 1) [.nils, .nils] [((nat_lit 0), (nat_lit 1), (.c v68)), ((nat_lit 1), (nat_lit 1), (.c (ρ (.l p1))))] call ρ st (fun v69 st => call (nat_lit 58) [v69] st (fun v70 st => h_op4_callV (.c (ρ p2)) [(.c (u8 7))] call ρ st (fun v71 st => call (nat_lit 38) [(i6 34)] st (fun v72 st => call (nat_lit 38) [(i6 23)] st (fun v73 st => h_op3_buildS (nat_lit 1) (nat_lit 1) [.nils] [((nat_lit 0), (nat_lit 1), (.c v73))] call ρ st (fun v74 st => call (nat_lit 39) [v72, v74] st (fun v75 st => h_op3_buildS (nat_lit 2) (nat_lit 1) [.nils, .nils] [((nat_lit 0), (nat_lit 1), (.c v71)), ((nat_lit 1), (nat_lit 1), (.c v75))] call ρ st (fun v76 st => call (nat_lit 58) [v76] st (fun v77 st => call (nat_lit 38) [(i6 24)] st (fun v78 st => call (nat_lit 61) [(i6 32), (i6 33)] st (fun v79 st => h_op3_buildS (nat_lit 1) (nat_lit 1) [.nils] [((nat_lit 0), (nat_lit 1), (.c v79))] call ρ st (fun v80 st => call (nat_lit 39) [v78, v80] st (fun v81 st => h_op4_callV (.c (ρ p2)) [(.c (u8 8))] call ρ st (fun v82 st => call (nat_lit 38) [(i6 23)] st (fun v83 st => call (nat_lit 38) [(i6 30)] st (fun v84 st => h_op3_buildS (nat_lit 3) (nat_lit 1) [.nils, .nils, .nils] [((nat_lit 0), (nat_lit 1), (.c v82)), ((nat_lit 1), (nat_lit 1), (.c v83)), ((nat_lit 2), (nat_lit 1), (.c v84))] call ρ st (fun v85 st => call (nat_lit 58) [v85] st (fun v86 st => call (nat_lit 38) [(i6 31)] st (fun v87 st => h_op3_buildS (nat_lit 1) (nat_lit 1) [.nils] [((nat_lit 0), (nat_lit 1), (.c v87))] call ρ st (fun v88 st => call (nat_lit 39) [v86, v88] st (fun v89 st => h_op4_callV (.c (ρ p2)) [(.c (u8 8))] call ρ st (fun v90 st => call (nat_lit 38) [(i6 23)] st (fun v91 st => h_op3_buildS (nat_lit 2) (nat_lit 1) [.nils, .nils] [((nat_lit 0), (nat_lit 1), (.c v90)), ((nat_lit 1), (nat_lit 1), (.c v91))] call ρ st (fun v92 st => call (nat_lit 58) [v92] st (fun v93 st => call (nat_lit 38) [(i6 31)] st (fun v94 st => call (nat_lit 38) [(i6 23)] st (fun v95 st => h_op3_buildS (nat_lit 2) (nat_lit 1) [.nils, .nils] [((nat_lit 0), (nat_lit 1), (.c v94)), ((nat_lit 1), (nat_lit 1), (.c v95))] call ρ st (fun v96 st => call (nat_lit 58) [v96] st (fun v97 st => h_op3_buildS (nat_lit 1) (nat_lit 1) [.nils] [((nat_lit 0), (nat_lit 1), (.c v97))] call ρ st (fun v98 st => call (nat_lit 39) [v93, v98] st (fun v99 st => call (nat_lit 38) [(i6 30)] st (fun v100 st => call (nat_lit 38) [(i6 31)] st (fun v101 st => call (nat_lit 38) [(i6 30)] st (fun v102 st => h_op3_buildS (nat_lit 2) (nat_lit 1) [.nils, .nils] [((nat_lit 0), (nat_lit 1), (.c v101)), ((nat_lit 1), (nat_lit 1), (.c v102))] call ρ st (fun v103 st => call (nat_lit 58) [v103] st (fun v104 st => h_op3_buildS (nat_lit 1) (nat_lit 1) [.nils] [((nat_lit 0), (nat_lit 1), (.c v104))] call ρ st (fun v105 st => call (nat_lit 39) [v100, v105] st (fun v106 st => h_op3_buildS (nat_lit 14) (nat_lit 1) [.nils, .nils, .nils, .nils, .nils, .nils, .nils, .nils, .nils, .nils, .nils, .nils, .nils, .nils] [((nat_lit 0), (nat_lit 1), (.c v3)), ((nat_lit 1), (nat_lit 1), (.c v10)), ((nat_lit 2), (nat_lit 1), (.c v17)), ((nat_lit 3), (nat_lit 1), (.c v27)), ((nat_lit 4), (nat_lit 1), (.c v37)), ((nat_lit 5), (nat_lit 1), (.c v47)), ((nat_lit 6), (nat_lit 1), (.c v54)), ((nat_lit 7), (nat_lit 1), (.c v63)), ((nat_lit 8), (nat_lit 1), (.c v70)), ((nat_lit 9), (nat_lit 1), (.c v77)), ((nat_lit 10), (nat_lit 1), (.c v81)), ((nat_lit 11), (nat_lit 1), (.c v89)), ((nat_lit 12), (nat_lit 1), (.c v99)), ((nat_lit 13), (nat_lit 1), (.c v106))] call ρ st (fun v107 st => call (nat_lit 37) [(ρ p0), (u8 1), v107] st (fun v108 st => K [] st)))))))))))))))))))))))))))))))))))))))))))))))))))))))))))))))))))))))))))))))))))))))))))))))))))))))))))))
theorem h43x4 : RegOk [⟨(some (.r (.r p1))), none, (.move (.t p0))⟩, ⟨(some (.l (.l p2))), none, (.call (nat_lit 38) [(.c (.sc (.int .i64 (.ofNat (nat_lit 25)))))])⟩, ⟨(some (.r (.l p2))), none, (.call (nat_lit 61) [(.c (.sc (.int .i64 (.ofNat (nat_lit 26))))), (.c (.sc (.int .i64 (.ofNat (nat_lit 27)))))])⟩, ⟨(some (.l (.r p2))), none, (.more (.more (.buildS (nat_lit 1) (nat_lit 1) [.nils] [((nat_lit 0), (nat_lit 1), (.t (.r (.l p2))))])))⟩, ⟨(some (.r (.r p2))), none, (.call (nat_lit 39) [(.t (.l (.l p2))), (.t (.l (.r p2)))])⟩, ⟨(some (.l (.l (.l p1)))), none, (.move (.t p2))⟩, ⟨(some (.r (.l (.l p1)))), none, (.more (.more (.more (.callV (.t (.l (.l (.l p1)))) [(.c (.sc (.int .u8 (.ofNat (nat_lit 1)))))]))))⟩, ⟨(some (.l (.r (.l p1)))), none, (.call (nat_lit 38) [(.c (.sc (.int .i64 (.ofNat (nat_lit 25)))))])⟩, ⟨(some (.r (.r (.l p1)))), none, (.call (nat_lit 38) [(.c (.sc (.int .i64 (.ofNat (nat_lit 22)))))])⟩, ⟨(some (.l (.l (.r p1)))), none, (.more (.more (.buildS (nat_lit 1) (nat_lit 1) [.nils] [((nat_lit 0), (nat_lit 1), (.t (.r (.r (.l p1)))))])))⟩, ⟨(some (.r (.l (.r p1)))), none, (.call (nat_lit 39) [(.t (.l (.r (.l p1)))), (.t (.l (.l (.r p1))))])⟩, ⟨(some (.l (.r (.r p1)))), none, (.more (.more (.buildS (nat_lit 2) (nat_lit 1) [.nils, .nils] [((nat_lit 0), (nat_lit 1), (.t (.r (.l (.l p1))))), ((nat_lit 1), (nat_lit 1), (.t (.r (.l (.r p1)))))])))⟩, ⟨(some (.r (.r (.r p1)))), none, (.call (nat_lit 58) [(.t (.l (.r (.r p1))))])⟩, ⟨(some (.l (.l (.l p2)))), none, (.move (.t p2))⟩, ⟨(some (.r (.l (.l p2)))), none, (.more (.more (.more (.callV (.t (.l (.l (.l p2)))) [(.c (.sc (.int .u8 (.ofNat (nat_lit 2)))))]))))⟩, ⟨(some (.l (.r (.l p2)))), none, (.call (nat_lit 38) [(.c (.sc (.int .i64 (.ofNat (nat_lit 25)))))])⟩, ⟨(some (.r (.r (.l p2)))), none, (.call (nat_lit 38) [(.c (.sc (.int .i64 (.ofNat (nat_lit 24)))))])⟩, ⟨(some (.l (.l (.r p2)))), none, (.more (.more (.buildS (nat_lit 1) (nat_lit 1) [.nils] [((nat_lit 0), (nat_lit 1), (.t (.r (.r (.l p2)))))])))⟩, ⟨(some (.r (.l (.r p2)))), none, (.call (nat_lit 39) [(.t (.l (.r (.l p2)))), (.t (.l (.l (.r p2))))])⟩, ⟨(some (.l (.r (.r p2)))), none, (.more (.more (.buildS (nat_lit 2) (nat_lit 1) [.nils, .nils] [((nat_lit 0), (nat_lit 1), (.t (.r (.l (.l p2))))), ((nat_lit 1), (nat_lit 1), (.t (.r (.l (.r p2)))))])))⟩, ⟨(some (.r (.r (.r p2)))), none, (.call (nat_lit 58) [(.t (.l (.r (.r p2))))])⟩, ⟨(some (.l (.l (.l (.l p1))))), none, (.move (.t p2))⟩, ⟨(some (.r (.l (.l (.l p1))))), none, (.more (.more (.more (.callV (.t (.l (.l (.l (.l p1))))) [(.c (.sc (.int .u8 (.ofNat (nat_lit 3)))))]))))⟩, ⟨(some (.l (.r (.l (.l p1))))), none, (.call (nat_lit 38) [(.c (.sc (.int .i64 (.ofNat (nat_lit 23)))))])⟩, ⟨(some (.r (.r (.l (.l p1))))), none, (.call (nat_lit 38) [(.c (.sc (.int .i64 (.ofNat (nat_lit 24)))))])⟩, ⟨(some (.l (.l (.r (.l p1))))), none, (.more (.more (.buildS (nat_lit 2) (nat_lit 1) [.nils, .nils] [((nat_lit 0), (nat_lit 1), (.t (.l (.r (.l (.l p1)))))), ((nat_lit 1), (nat_lit 1), (.t (.r (.r (.l (.l p1))))))])))⟩, ⟨(some (.r (.l (.r (.l p1))))), none, (.call (nat_lit 55) [(.t (.l (.l (.r (.l p1)))))])⟩, ⟨(some (.l (.r (.r (.l p1))))), none, (.call (nat_lit 38) [(.c (.sc (.int .i64 (.ofNat (nat_lit 25)))))])⟩, ⟨(some (.r (.r (.r (.l p1))))), none, (.move (.t (.r p1)))⟩, ⟨(some (.l (.l (.l (.r p1))))), none, (.more (.more (.buildS (nat_lit 2) (nat_lit 1) [.nils, .nils] [((nat_lit 0), (nat_lit 1), (.t (.l (.r (.r (.l p1)))))), ((nat_lit 1), (nat_lit 1), (.t (.r (.r (.r (.l p1))))))])))⟩, ⟨(some (.r (.l (.l (.r p1))))), none, (.call (nat_lit 39) [(.t (.r (.l (.r (.l p1))))), (.t (.l (.l (.l (.r p1)))))])⟩, ⟨(some (.l (.r (.l (.r p1))))), none, (.more (.more (.buildS (nat_lit 2) (nat_lit 1) [.nils, .nils] [((nat_lit 0), (nat_lit 1), (.t (.r (.l (.l (.l p1)))))), ((nat_lit 1), (nat_lit 1), (.t (.r (.l (.l (.r p1))))))])))⟩, ⟨(some (.r (.r (.l (.r p1))))), none, (.call (nat_lit 58) [(.t (.l (.r (.l (.r p1)))))])⟩, ⟨(some (.l (.l (.r (.r p1))))), none, (.move (.t p2))⟩, ⟨(some (.r (.l (.r (.r p1))))), none, (.more (.more (.more (.callV (.t (.l (.l (.r (.r p1))))) [(.c (.sc (.int .u8 (.ofNat (nat_lit 4)))))]))))⟩, ⟨(some (.l (.r (.r (.r p1))))), none, (.call (nat_lit 38) [(.c (.sc (.int .i64 (.ofNat (nat_lit 23)))))])⟩, ⟨(some (.r (.r (.r (.r p1))))), none, (.move (.t (.r p1)))⟩, ⟨(some (.l (.l (.l (.l p2))))), none, (.more (.more (.buildS (nat_lit 2) (nat_lit 1) [.nils, .nils] [((nat_lit 0), (nat_lit 1), (.t (.l (.r (.r (.r p1)))))), ((nat_lit 1), (nat_lit 1), (.t (.r (.r (.r (.r p1))))))])))⟩, ⟨(some (.r (.l (.l (.l p2))))), none, (.call (nat_lit 55) [(.t (.l (.l (.l (.l p2)))))])⟩, ⟨(some (.l (.r (.l (.l p2))))), none, (.call (nat_lit 38) [(.c (.sc (.int .i64 (.ofNat (nat_lit 24)))))])⟩, ⟨(some (.r (.r (.l (.l p2))))), none, (.call (nat_lit 38) [(.c (.sc (.int .i64 (.ofNat (nat_lit 25)))))])⟩, ⟨(some (.l (.l (.r (.l p2))))), none, (.more (.more (.buildS (nat_lit 2) (nat_lit 1) [.nils, .nils] [((nat_lit 0), (nat_lit 1), (.t (.l (.r (.l (.l p2)))))), ((nat_lit 1), (nat_lit 1), (.t (.r (.r (.l (.l p2))))))])))⟩, ⟨(some (.r (.l (.r (.l p2))))), none, (.call (nat_lit 39) [(.t (.r (.l (.l (.l p2))))), (.t (.l (.l (.r (.l p2)))))])⟩, ⟨(some (.l (.r (.r (.l p2))))), none, (.more (.more (.buildS (nat_lit 2) (nat_lit 1) [.nils, .nils] [((nat_lit 0), (nat_lit 1), (.t (.r (.l (.r (.r p1)))))), ((nat_lit 1), (nat_lit 1), (.t (.r (.l (.r (.l p2))))))])))⟩, ⟨(some (.r (.r (.r (.l p2))))), none, (.call (nat_lit 58) [(.t (.l (.r (.r (.l p2)))))])⟩, ⟨(some (.l (.l (.l (.r p2))))), none, (.move (.t p2))⟩, ⟨(some (.r (.l (.l (.r p2))))), none, (.more (.more (.more (.callV (.t (.l (.l (.l (.r p2))))) [(.c (.sc (.int .u8 (.ofNat (nat_lit 5)))))]))))⟩, ⟨(some (.l (.r (.l (.r p2))))), none, (.call (nat_lit 38) [(.c (.sc (.int .i64 (.ofNat (nat_lit 23)))))])⟩, ⟨(some (.r (.r (.l (.r p2))))), none, (.call (nat_lit 38) [(.c (.sc (.int .i64 (.ofNat (nat_lit 24)))))])⟩, ⟨(some (.l (.l (.r (.r p2))))), none, (.more (.more (.buildS (nat_lit 2) (nat_lit 1) [.nils, .nils] [((nat_lit 0), (nat_lit 1), (.t (.l (.r (.l (.r p2)))))), ((nat_lit 1), (nat_lit 1), (.t (.r (.r (.l (.r p2))))))])))⟩, ⟨(some (.r (.l (.r (.r p2))))), none, (.call (nat_lit 58) [(.t (.l (.l (.r (.r p2)))))])⟩, ⟨(some (.l (.r (.r (.r p2))))), none, (.call (nat_lit 38) [(.c (.sc (.int .i64 (.ofNat (nat_lit 25)))))])⟩, ⟨(some (.r (.r (.r (.r p2))))), none, (.move (.t (.r p1)))⟩, ⟨(some (.l (.l (.l (.l (.l p1)))))), none, (.more (.more (.buildS (nat_lit 2) (nat_lit 1) [.nils, .nils] [((nat_lit 0), (nat_lit 1), (.t (.l (.r (.r (.r p2)))))), ((nat_lit 1), (nat_lit 1), (.t (.r (.r (.r (.r p2))))))])))⟩, ⟨(some (.r (.l (.l (.l (.l p1)))))), none, (.call (nat_lit 39) [(.t (.r (.l (.r (.r p2))))), (.t (.l (.l (.l (.l (.l p1))))))])⟩, ⟨(some (.l (.r (.l (.l (.l p1)))))), none, (.more (.more (.buildS (nat_lit 2) (nat_lit 1) [.nils, .nils] [((nat_lit 0), (nat_lit 1), (.t (.r (.l (.l (.r p2)))))), ((nat_lit 1), (nat_lit 1), (.t (.r (.l (.l (.l (.l p1)))))))])))⟩, ⟨(some (.r (.r (.l (.l (.l p1)))))), none, (.call (nat_lit 58) [(.t (.l (.r (.l (.l (.l p1))))))])⟩, ⟨(some (.l (.l (.r (.l (.l p1)))))), none, (.move (.t p2))⟩, ⟨(some (.r (.l (.r (.l (.l p1)))))), none, (.more (.more (.more (.callV (.t (.l (.l (.r (.l (.l p1)))))) [(.c (.sc (.int .u8 (.ofNat (nat_lit 6)))))]))))⟩, ⟨(some (.l (.r (.r (.l (.l p1)))))), none, (.call (nat_lit 38) [(.c (.sc (.int .i64 (.ofNat (nat_lit 25)))))])⟩, ⟨(some (.r (.r (.r (.l (.l p1)))))), none, (.call (nat_lit 38) [(.c (.sc (.int .i64 (.ofNat (nat_lit 34)))))])⟩, ⟨(some (.l (.l (.l (.r (.l p1)))))), none, (.more (.more (.buildS (nat_lit 1) (nat_lit 1) [.nils] [((nat_lit 0), (nat_lit 1), (.t (.r (.r (.r (.l (.l p1)))))))])))⟩, ⟨(some (.r (.l (.l (.r (.l p1)))))), none, (.call (nat_lit 39) [(.t (.l (.r (.r (.l (.l p1)))))), (.t (.l (.l (.l (.r (.l p1))))))])⟩, ⟨(some (.l (.r (.l (.r (.l p1)))))), none, (.more (.more (.buildS (nat_lit 2) (nat_lit 1) [.nils, .nils] [((nat_lit 0), (nat_lit 1), (.t (.r (.l (.r (.l (.l p1))))))), ((nat_lit 1), (nat_lit 1), (.t (.r (.l (.l (.r (.l p1)))))))])))⟩, ⟨(some (.r (.r (.l (.r (.l p1)))))), none, (.call (nat_lit 58) [(.t (.l (.r (.l (.r (.l p1))))))])⟩, ⟨(some (.l (.l (.r (.r (.l p1)))))), none, (.move (.t (.l p2)))⟩, ⟨(some (.r (.l (.r (.r (.l p1)))))), none, (.call (nat_lit 41) [(.c (.sc (.int .i64 (.ofNat (nat_lit 5))))), (.c (.sc (.int .i64 (.ofNat (nat_lit 6)))))])⟩, ⟨(some (.l (.r (.r (.r (.l p1)))))), none, (.more (.more (.buildS (nat_lit 1) (nat_lit 1) [.nils] [((nat_lit 0), (nat_lit 1), (.t (.r (.l (.r (.r (.l p1)))))))])))⟩, ⟨(some (.r (.r (.r (.r (.l p1)))))), none, (.call (nat_lit 39) [(.t (.l (.l (.r (.r (.l p1)))))), (.t (.l (.r (.r (.r (.l p1))))))])⟩, ⟨(some (.l (.l (.l (.l (.r p1)))))), none, (.call (nat_lit 38) [(.c (.sc (.int .i64 (.ofNat (nat_lit 25)))))])⟩, ⟨(some (.r (.l (.l (.l (.r p1)))))), none, (.call (nat_lit 38) [(.c (.sc (.int .i64 (.ofNat (nat_lit 23)))))])⟩, ⟨(some (.l (.r (.l (.l (.r p1)))))), none, (.more (.more (.buildS (nat_lit 1) (nat_lit 1) [.nils] [((nat_lit 0), (nat_lit 1), (.t (.r (.l (.l (.l (.r p1)))))))])))⟩, ⟨(some (.r (.r (.l (.l (.r p1)))))), none, (.call (nat_lit 39) [(.t (.l (.l (.l (.l (.r p1)))))), (.t (.l (.r (.l (.l (.r p1))))))])⟩, ⟨(some (.l (.l (.r (.l (.r p1)))))), none, (.more (.more (.buildS (nat_lit 2) (nat_lit 1) [.nils, .nils] [((nat_lit 0), (nat_lit 1), (.t (.r (.r (.r (.r (.l p1))))))), ((nat_lit 1), (nat_lit 1), (.t (.r (.r (.l (.l (.r p1)))))))])))⟩, ⟨(some (.r (.l (.r (.l (.r p1)))))), none, (.call (nat_lit 58) [(.t (.l (.l (.r (.l (.r p1))))))])⟩, ⟨(some (.l (.r (.r (.l (.r p1)))))), none, (.move (.t (.l p2)))⟩, ⟨(some (.r (.r (.r (.l (.r p1)))))), none, (.move (.t p2))⟩, ⟨(some (.l (.l (.l (.r (.r p1)))))), none, (.more (.more (.more (.callV (.t (.r (.r (.r (.l (.r p1)))))) [(.c (.sc (.int .u8 (.ofNat (nat_lit 3)))))]))))⟩, ⟨(some (.r (.l (.l (.r (.r p1)))))), none, (.move (.t p2))⟩, ⟨(some (.l (.r (.l (.r (.r p1)))))), none, (.more (.more (.more (.callV (.t (.r (.l (.l (.r (.r p1)))))) [(.c (.sc (.int .u8 (.ofNat (nat_lit 4)))))]))))⟩, ⟨(some (.r (.r (.l (.r (.r p1)))))), none, (.move (.t p2))⟩, ⟨(some (.l (.l (.r (.r (.r p1)))))), none, (.more (.more (.more (.callV (.t (.r (.r (.l (.r (.r p1)))))) [(.c (.sc (.int .u8 (.ofNat (nat_lit 5)))))]))))⟩, ⟨(some (.r (.l (.r (.r (.r p1)))))), none, (.more (.more (.buildS (nat_lit 3) (nat_lit 1) [.nils, .nils, .nils] [((nat_lit 0), (nat_lit 1), (.t (.l (.l (.l (.r (.r p1))))))), ((nat_lit 1), (nat_lit 1), (.t (.l (.r (.l (.r (.r p1))))))), ((nat_lit 2), (nat_lit 1), (.t (.l (.l (.r (.r (.r p1)))))))])))⟩, ⟨(some (.l (.r (.r (.r (.r p1)))))), none, (.call (nat_lit 39) [(.t (.l (.r (.r (.l (.r p1)))))), (.t (.r (.l (.r (.r (.r p1))))))])⟩, ⟨(some (.r (.r (.r (.r (.r p1)))))), none, (.move (.t (.l p1)))⟩, ⟨(some (.l (.l (.l (.l (.l p2)))))), none, (.more (.more (.buildS (nat_lit 2) (nat_lit 1) [.nils, .nils] [((nat_lit 0), (nat_lit 1), (.t (.l (.r (.r (.r (.r p1))))))), ((nat_lit 1), (nat_lit 1), (.t (.r (.r (.r (.r (.r p1)))))))])))⟩, ⟨(some (.r (.l (.l (.l (.l p2)))))), none, (.call (nat_lit 58) [(.t (.l (.l (.l (.l (.l p2))))))])⟩, ⟨(some (.l (.r (.l (.l (.l p2)))))), none, (.move (.t p2))⟩, ⟨(some (.r (.r (.l (.l (.l p2)))))), none, (.more (.more (.more (.callV (.t (.l (.r (.l (.l (.l p2)))))) [(.c (.sc (.int .u8 (.ofNat (nat_lit 7)))))]))))⟩, ⟨(some (.l (.l (.r (.l (.l p2)))))), none, (.call (nat_lit 38) [(.c (.sc (.int .i64 (.ofNat (nat_lit 34)))))])⟩, ⟨(some (.r (.l (.r (.l (.l p2)))))), none, (.call (nat_lit 38) [(.c (.sc (.int .i64 (.ofNat (nat_lit 23)))))])⟩, ⟨(some (.l (.r (.r (.l (.l p2)))))), none, (.more (.more (.buildS (nat_lit 1) (nat_lit 1) [.nils] [((nat_lit 0), (nat_lit 1), (.t (.r (.l (.r (.l (.l p2)))))))])))⟩, ⟨(some (.r (.r (.r (.l (.l p2)))))), none, (.call (nat_lit 39) [(.t (.l (.l (.r (.l (.l p2)))))), (.t (.l (.r (.r (.l (.l p2))))))])⟩, ⟨(some (.l (.l (.l (.r (.l p2)))))), none, (.more (.more (.buildS (nat_lit 2) (nat_lit 1) [.nils, .nils] [((nat_lit 0), (nat_lit 1), (.t (.r (.r (.l (.l (.l p2))))))), ((nat_lit 1), (nat_lit 1), (.t (.r (.r (.r (.l (.l p2)))))))])))⟩, ⟨(some (.r (.l (.l (.r (.l p2)))))), none, (.call (nat_lit 58) [(.t (.l (.l (.l (.r (.l p2))))))])⟩, ⟨(some (.l (.r (.l (.r (.l p2)))))), none, (.call (nat_lit 38) [(.c (.sc (.int .i64 (.ofNat (nat_lit 24)))))])⟩, ⟨(some (.r (.r (.l (.r (.l p2)))))), none, (.call (nat_lit 61) [(.c (.sc (.int .i64 (.ofNat (nat_lit 32))))), (.c (.sc (.int .i64 (.ofNat (nat_lit 33)))))])⟩, ⟨(some (.l (.l (.r (.r (.l p2)))))), none, (.more (.more (.buildS (nat_lit 1) (nat_lit 1) [.nils] [((nat_lit 0), (nat_lit 1), (.t (.r (.r (.l (.r (.l p2)))))))])))⟩, ⟨(some (.r (.l (.r (.r (.l p2)))))), none, (.call (nat_lit 39) [(.t (.l (.r (.l (.r (.l p2)))))), (.t (.l (.l (.r (.r (.l p2))))))])⟩, ⟨(some (.l (.r (.r (.r (.l p2)))))), none, (.move (.t p2))⟩, ⟨(some (.r (.r (.r (.r (.l p2)))))), none, (.more (.more (.more (.callV (.t (.l (.r (.r (.r (.l p2)))))) [(.c (.sc (.int .u8 (.ofNat (nat_lit 8)))))]))))⟩, ⟨(some (.l (.l (.l (.l (.r p2)))))), none, (.call (nat_lit 38) [(.c (.sc (.int .i64 (.ofNat (nat_lit 23)))))])⟩, ⟨(some (.r (.l (.l (.l (.r p2)))))), none, (.call (nat_lit 38) [(.c (.sc (.int .i64 (.ofNat (nat_lit 30)))))])⟩, ⟨(some (.l (.r (.l (.l (.r p2)))))), none, (.more (.more (.buildS (nat_lit 3) (nat_lit 1) [.nils, .nils, .nils] [((nat_lit 0), (nat_lit 1), (.t (.r (.r (.r (.r (.l p2))))))), ((nat_lit 1), (nat_lit 1), (.t (.l (.l (.l (.l (.r p2))))))), ((nat_lit 2), (nat_lit 1), (.t (.r (.l (.l (.l (.r p2)))))))])))⟩, ⟨(some (.r (.r (.l (.l (.r p2)))))), none, (.call (nat_lit 58) [(.t (.l (.r (.l (.l (.r p2))))))])⟩, ⟨(some (.l (.l (.r (.l (.r p2)))))), none, (.call (nat_lit 38) [(.c (.sc (.int .i64 (.ofNat (nat_lit 31)))))])⟩, ⟨(some (.r (.l (.r (.l (.r p2)))))), none, (.more (.more (.buildS (nat_lit 1) (nat_lit 1) [.nils] [((nat_lit 0), (nat_lit 1), (.t (.l (.l (.r (.l (.r p2)))))))])))⟩, ⟨(some (.l (.r (.r (.l (.r p2)))))), none, (.call (nat_lit 39) [(.t (.r (.r (.l (.l (.r p2)))))), (.t (.r (.l (.r (.l (.r p2))))))])⟩, ⟨(some (.r (.r (.r (.l (.r p2)))))), none, (.move (.t p2))⟩, ⟨(some (.l (.l (.l (.r (.r p2)))))), none, (.more (.more (.more (.callV (.t (.r (.r (.r (.l (.r p2)))))) [(.c (.sc (.int .u8 (.ofNat (nat_lit 8)))))]))))⟩, ⟨(some (.r (.l (.l (.r (.r p2)))))), none, (.call (nat_lit 38) [(.c (.sc (.int .i64 (.ofNat (nat_lit 23)))))])⟩, ⟨(some (.l (.r (.l (.r (.r p2)))))), none, (.more (.more (.buildS (nat_lit 2) (nat_lit 1) [.nils, .nils] [((nat_lit 0), (nat_lit 1), (.t (.l (.l (.l (.r (.r p2))))))), ((nat_lit 1), (nat_lit 1), (.t (.r (.l (.l (.r (.r p2)))))))])))⟩, ⟨(some (.r (.r (.l (.r (.r p2)))))), none, (.call (nat_lit 58) [(.t (.l (.r (.l (.r (.r p2))))))])⟩, ⟨(some (.l (.l (.r (.r (.r p2)))))), none, (.call (nat_lit 38) [(.c (.sc (.int .i64 (.ofNat (nat_lit 31)))))])⟩, ⟨(some (.r (.l (.r (.r (.r p2)))))), none, (.call (nat_lit 38) [(.c (.sc (.int .i64 (.ofNat (nat_lit 23)))))])⟩, ⟨(some (.l (.r (.r (.r (.r p2)))))), none, (.more (.more (.buildS (nat_lit 2) (nat_lit 1) [.nils, .nils] [((nat_lit 0), (nat_lit 1), (.t (.l (.l (.r (.r (.r p2))))))), ((nat_lit 1), (nat_lit 1), (.t (.r (.l (.r (.r (.r p2)))))))])))⟩, ⟨(some (.r (.r (.r (.r (.r p2)))))), none, (.call (nat_lit 58) [(.t (.l (.r (.r (.r (.r p2))))))])⟩, ⟨(some (.l (.l (.l (.l (.l (.l p1))))))), none, (.more (.more (.buildS (nat_lit 1) (nat_lit 1) [.nils] [((nat_lit 0), (nat_lit 1), (.t (.r (.r (.r (.r (.r p2)))))))])))⟩, ⟨(some (.r (.l (.l (.l (.l (.l p1))))))), none, (.call (nat_lit 39) [(.t (.r (.r (.l (.r (.r p2)))))), (.t (.l (.l (.l (.l (.l (.l p1)))))))])⟩, ⟨(some (.l (.r (.l (.l (.l (.l p1))))))), none, (.call (nat_lit 38) [(.c (.sc (.int .i64 (.ofNat (nat_lit 30)))))])⟩, ⟨(some (.r (.r (.l (.l (.l (.l p1))))))), none, (.call (nat_lit 38) [(.c (.sc (.int .i64 (.ofNat (nat_lit 31)))))])⟩, ⟨(some (.l (.l (.r (.l (.l (.l p1))))))), none, (.call (nat_lit 38) [(.c (.sc (.int .i64 (.ofNat (nat_lit 30)))))])⟩, ⟨(some (.r (.l (.r (.l (.l (.l p1))))))), none, (.more (.more (.buildS (nat_lit 2) (nat_lit 1) [.nils, .nils] [((nat_lit 0), (nat_lit 1), (.t (.r (.r (.l (.l (.l (.l p1)))))))), ((nat_lit 1), (nat_lit 1), (.t (.l (.l (.r (.l (.l (.l p1))))))))])))⟩, ⟨(some (.l (.r (.r (.l (.l (.l p1))))))), none, (.call (nat_lit 58) [(.t (.r (.l (.r (.l (.l (.l p1)))))))])⟩, ⟨(some (.r (.r (.r (.l (.l (.l p1))))))), none, (.more (.more (.buildS (nat_lit 1) (nat_lit 1) [.nils] [((nat_lit 0), (nat_lit 1), (.t (.l (.r (.r (.l (.l (.l p1))))))))])))⟩, ⟨(some (.l (.l (.l (.r (.l (.l p1))))))), none, (.call (nat_lit 39) [(.t (.l (.r (.l (.l (.l (.l p1))))))), (.t (.r (.r (.r (.l (.l (.l p1)))))))])⟩, ⟨(some (.r (.l (.l (.r (.l (.l p1))))))), none, (.more (.more (.buildS (nat_lit 14) (nat_lit 1) [.nils, .nils, .nils, .nils, .nils, .nils, .nils, .nils, .nils, .nils, .nils, .nils, .nils, .nils] [((nat_lit 0), (nat_lit 1), (.t (.r (.r p2)))), ((nat_lit 1), (nat_lit 1), (.t (.r (.r (.r p1))))), ((nat_lit 2), (nat_lit 1), (.t (.r (.r (.r p2))))), ((nat_lit 3), (nat_lit 1), (.t (.r (.r (.l (.r p1)))))), ((nat_lit 4), (nat_lit 1), (.t (.r (.r (.r (.l p2)))))), ((nat_lit 5), (nat_lit 1), (.t (.r (.r (.l (.l (.l p1))))))), ((nat_lit 6), (nat_lit 1), (.t (.r (.r (.l (.r (.l p1))))))), ((nat_lit 7), (nat_lit 1), (.t (.r (.l (.r (.l (.r p1))))))), ((nat_lit 8), (nat_lit 1), (.t (.r (.l (.l (.l (.l p2))))))), ((nat_lit 9), (nat_lit 1), (.t (.r (.l (.l (.r (.l p2))))))), ((nat_lit 10), (nat_lit 1), (.t (.r (.l (.r (.r (.l p2))))))), ((nat_lit 11), (nat_lit 1), (.t (.l (.r (.r (.l (.r p2))))))), ((nat_lit 12), (nat_lit 1), (.t (.r (.l (.l (.l (.l (.l p1)))))))), ((nat_lit 13), (nat_lit 1), (.t (.l (.l (.l (.r (.l (.l p1))))))))])))⟩, ⟨(some (.l (.r (.l (.r (.l (.l p1))))))), none, (.call (nat_lit 37) [(.t (.r (.r p1))), (.c (.sc (.int .u8 (.ofNat (nat_lit 1))))), (.t (.r (.l (.l (.r (.l (.l p1)))))))])⟩] [] r43x4 := by
  intro call ρ st K
  kernel_rfl
/- (*attestor/trace.list).result -/
noncomputable def cf43 : HF := ⟨(.seq (.reg _ _ _ h43x0)
 (.seq (.reg _ _ _ h43x1)
 (.seq (.reg _ _ _ h43x2)
 (.seq (.reg _ _ _ h43x3)
 (.reg _ _ _ h43x4))))), [], [p0], [(.r p2), (.l (.l p1)), (.r (.l p1)), (.l (.r p1)), (.r (.r p1)), (.l (.l p2)), (.r (.l p2)), (.l (.r p2)), (.r (.r p2)), (.l (.l (.l p1))), (.r (.l (.l p1))), (.l (.r (.l p1))), (.r (.r (.l p1))), (.l (.l (.r p1))), (.r (.l (.r p1))), (.l (.r (.r p1))), (.r (.r (.r p1))), (.l (.l (.l p2))), (.r (.l (.l p2))), (.l (.r (.l p2))), (.r (.r (.l p2))), (.l (.l (.r p2))), (.r (.l (.r p2))), (.l (.r (.r p2))), (.r (.r (.r p2))), (.l (.l (.l (.l p1)))), (.r (.l (.l (.l p1)))), (.l (.r (.l (.l p1)))), (.r (.r (.l (.l p1)))), (.l (.l (.r (.l p1)))), (.r (.l (.r (.l p1)))), (.l (.r (.r (.l p1)))), (.r (.r (.r (.l p1)))), (.l (.l (.l (.r p1)))), (.r (.l (.l (.r p1)))), (.l (.r (.l (.r p1)))), (.r (.r (.l (.r p1)))), (.l (.l (.r (.r p1)))), (.r (.l (.r (.r p1)))), (.l (.r (.r (.r p1)))), (.r (.r (.r (.r p1)))), (.l (.l (.l (.l p2)))), (.r (.l (.l (.l p2)))), (.l (.r (.l (.l p2)))), (.r (.r (.l (.l p2)))), (.l (.l (.r (.l p2)))), (.r (.l (.r (.l p2)))), (.l (.r (.r (.l p2)))), (.r (.r (.r (.l p2)))), (.l (.l (.l (.r p2)))), (.r (.l (.l (.r p2)))), (.l (.r (.l (.r p2)))), (.r (.r (.l (.r p2)))), (.l (.l (.r (.r p2)))), (.r (.l (.r (.r p2)))), (.l (.r (.r (.r p2)))), (.r (.r (.r (.r p2)))), (.l (.l (.l (.l (.l p1))))), (.r (.l (.l (.l (.l p1))))), (.l (.r (.l (.l (.l p1))))), (.r (.r (.l (.l (.l p1))))), (.l (.l (.r (.l (.l p1))))), (.r (.l (.r (.l (.l p1))))), (.l (.r (.r (.l (.l p1))))), (.r (.r (.r (.l (.l p1))))), (.l (.l (.l (.r (.l p1))))), (.r (.l (.l (.r (.l p1))))), (.l (.r (.l (.r (.l p1))))), (.r (.r (.l (.r (.l p1))))), (.l (.l (.r (.r (.l p1))))), (.r (.l (.r (.r (.l p1))))), (.l (.r (.r (.r (.l p1))))), (.r (.r (.r (.r (.l p1))))), (.l (.l (.l (.l (.r p1))))), (.r (.l (.l (.l (.r p1))))), (.l (.r (.l (.l (.r p1))))), (.r (.r (.l (.l (.r p1))))), (.l (.l (.r (.l (.r p1))))), (.r (.l (.r (.l (.r p1))))), (.l (.r (.r (.l (.r p1))))), (.r (.r (.r (.l (.r p1))))), (.l (.l (.l (.r (.r p1))))), (.r (.l (.l (.r (.r p1))))), (.l (.r (.l (.r (.r p1))))), (.r (.r (.l (.r (.r p1))))), (.l (.l (.r (.r (.r p1))))), (.r (.l (.r (.r (.r p1))))), (.l (.r (.r (.r (.r p1))))), (.r (.r (.r (.r (.r p1))))), (.l (.l (.l (.l (.l p2))))), (.r (.l (.l (.l (.l p2))))), (.l (.r (.l (.l (.l p2))))), (.r (.r (.l (.l (.l p2))))), (.l (.l (.r (.l (.l p2))))), (.r (.l (.r (.l (.l p2))))), (.l (.r (.r (.l (.l p2))))), (.r (.r (.r (.l (.l p2))))), (.l (.l (.l (.r (.l p2))))), (.r (.l (.l (.r (.l p2))))), (.l (.r (.l (.r (.l p2))))), (.r (.r (.l (.r (.l p2))))), (.l (.l (.r (.r (.l p2))))), (.r (.l (.r (.r (.l p2))))), (.l (.r (.r (.r (.l p2))))), (.r (.r (.r (.r (.l p2))))), (.l (.l (.l (.l (.r p2))))), (.r (.l (.l (.l (.r p2))))), (.l (.r (.l (.l (.r p2))))), (.r (.r (.l (.l (.r p2))))), (.l (.l (.r (.l (.r p2))))), (.r (.l (.r (.l (.r p2))))), (.l (.r (.r (.l (.r p2))))), (.r (.r (.r (.l (.r p2))))), (.l (.l (.l (.r (.r p2))))), (.r (.l (.l (.r (.r p2))))), (.l (.r (.l (.r (.r p2))))), (.r (.r (.l (.r (.r p2))))), (.l (.l (.r (.r (.r p2))))), (.r (.l (.r (.r (.r p2))))), (.l (.r (.r (.r (.r p2))))), (.r (.r (.r (.r (.r p2))))), (.l (.l (.l (.l (.l (.l p1)))))), (.r (.l (.l (.l (.l (.l p1)))))), (.l (.r (.l (.l (.l (.l p1)))))), (.r (.r (.l (.l (.l (.l p1)))))), (.l (.l (.r (.l (.l (.l p1)))))), (.r (.l (.r (.l (.l (.l p1)))))), (.l (.r (.r (.l (.l (.l p1)))))), (.r (.r (.r (.l (.l (.l p1)))))), (.l (.l (.l (.r (.l (.l p1)))))), (.r (.l (.l (.r (.l (.l p1)))))), (.l (.r (.l (.r (.l (.l p1))))))]⟩
end Go.Proofs.YtffaehgicojjmaaDoor.Ev
