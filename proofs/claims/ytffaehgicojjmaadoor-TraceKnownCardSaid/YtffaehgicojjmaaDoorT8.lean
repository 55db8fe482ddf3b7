/- Compiled functions of the translated program, and that each is what the compiler makes of it; no conditions. -/
import Derived.Test.YtffaehgicojjmaaDoorEvC
import Derived.KernelRfl
namespace Go.Proofs.YtffaehgicojjmaaDoor.Ev
set_option maxRecDepth 100000
set_option linter.unusedVariables false
noncomputable def r31x0 : RF := fun call ρ st K => K [(u6 0)] st
theorem h31x0 : RegOk [⟨(some (.r p1)), none, (.move (.c (.sc (.int .u64 (.ofNat (nat_lit 0))))))⟩] [(.r p1)] r31x0 := by
  intro call ρ st K
  kernel_rfl
noncomputable def r31x1 : RF := fun call ρ st K => call (nat_lit 50) [(ρ p0)] st (fun v0 st => K [v0] st)
theorem h31x1 : RegOk [⟨(some (.l (.l p2))), none, (.move (.t p0))⟩, ⟨(some (.r (.l p2))), none, (.call (nat_lit 50) [(.t (.l (.l p2)))])⟩, ⟨(some (.l p2)), none, (.move (.t (.r (.l p2))))⟩] [(.l p2)] r31x1 := by
  intro call ρ st K
  kernel_rfl
noncomputable def r31x2 : RF := fun call ρ st K => binK .eql (ρ (.l p2)) (u6 0) (fun v => (fun v0 st => jn false v0 (fun j => (j) (ρ p1) st) st (fun v1 st => jn false v0 (fun j => (j) (ρ (.l p2)) st) st (fun v2 st => jn false v0 (fun j => binK .rem v1 v2 (fun v => (j) v st)) st (fun v3 st => jn false v0 (fun j => binK .eql v3 (u6 0) (fun v => (j) v st)) st (fun v4 st => pck v0 (.sc (.bool true)) v4 (fun v => (fun v5 st => K [v5] st) v st)))))) v st)
theorem h31x2 : RegOk [⟨(some (.l (.r p2))), none, (.move (.t (.l p2)))⟩, ⟨(some (.r (.r p2))), none, (.bin .eql (.t (.l (.r p2))) (.c (.sc (.int .u64 (.ofNat (nat_lit 0))))))⟩, ⟨(some (.l (.l (.l p1)))), none, (.move (.t (.r (.r p2))))⟩, ⟨(some (.r (.l (.l p1)))), (some ((.l (.l (.l p1))), false)), (.move (.t p1))⟩, ⟨(some (.l (.r (.l p1)))), (some ((.l (.l (.l p1))), false)), (.move (.t (.l p2)))⟩, ⟨(some (.r (.r (.l p1)))), (some ((.l (.l (.l p1))), false)), (.bin .rem (.t (.r (.l (.l p1)))) (.t (.l (.r (.l p1)))))⟩, ⟨(some (.l (.l (.r p1)))), (some ((.l (.l (.l p1))), false)), (.bin .eql (.t (.r (.r (.l p1)))) (.c (.sc (.int .u64 (.ofNat (nat_lit 0))))))⟩, ⟨(some (.r (.l (.r p1)))), none, (.more (.pick (.t (.l (.l (.l p1)))) (.c (.sc (.bool true))) (.t (.l (.l (.r p1))))))⟩] [(.r (.l (.r p1)))] r31x2 := by
  intro call ρ st K
  kernel_rfl
noncomputable def r31x3 : RF := fun call ρ st K => K [(u6 0)] st
theorem h31x3 : RegOk [⟨(some (.r p1)), none, (.move (.c (.sc (.int .u64 (.ofNat (nat_lit 0))))))⟩] [(.r p1)] r31x3 := by
  intro call ρ st K
  kernel_rfl
noncomputable def r31x4 : RF := fun call ρ st K => (fun n0 mk => (fun v st => (fun v0 mk st => cnv .i64 v0 (fun v => (fun v st => (fun v1 mk st => (fun v st => (fun v2 mk st => (fun v st => (fun v3 mk st => binK .rem v2 v3 (fun v => (fun v st => (fun v4 mk st => cnv .i64 v4 (fun v => (fun v st => (fun v5 mk st => (fun v st => (fun v6 mk st => (fun v st => (fun v7 mk st => K [v6, v7] st) v mk st) v5 st) v mk st) v1 st) v mk st) v st)) v mk st) v st)) v mk st) (ρ (.l p2)) st) v mk st) (ρ p1) st) v mk st) v st)) v mk st) (ρ (.l p2)) st) st.next mk0
theorem h31x4 : DrwOk [⟨(some (.l (.r (.r p1)))), none, (.move (.t (.l p2))), (nat_lit 0), (nat_lit 1), (nat_lit 0)⟩, ⟨(some (.r (.r (.r p1)))), none, (.more (.conv .i64 (.t (.l (.r (.r p1)))))), (nat_lit 0), (nat_lit 2), (nat_lit 1)⟩, ⟨(some (.l (.l (.l p2)))), none, (.move (.t p1)), (nat_lit 0), (nat_lit 4), (nat_lit 0)⟩, ⟨(some (.r (.l (.l p2)))), none, (.move (.t (.l p2))), (nat_lit 0), (nat_lit 8), (nat_lit 0)⟩, ⟨(some (.l (.r (.l p2)))), none, (.bin .rem (.t (.l (.l (.l p2)))) (.t (.r (.l (.l p2))))), (nat_lit 0), (nat_lit 16), (nat_lit 12)⟩, ⟨(some (.r (.r (.l p2)))), none, (.more (.conv .i64 (.t (.l (.r (.l p2)))))), (nat_lit 0), (nat_lit 32), (nat_lit 28)⟩, ⟨(some (.r p2)), none, (.move (.t (.r (.r (.r p1))))), (nat_lit 0), (nat_lit 64), (nat_lit 3)⟩, ⟨(some (.l (.l p1))), none, (.move (.t (.r (.r (.l p2))))), (nat_lit 0), (nat_lit 128), (nat_lit 127)⟩] [(.r p2), (.l (.l p1))] r31x4 := by
  intro call ρ st K
  kernel_rfl
noncomputable def r31x5 : RF := fun call ρ st K => K [(i6 0), (i6 1)] st
theorem h31x5 : RegOk [⟨(some (.r (.l p1))), none, (.move (.c (.sc (.int .i64 (.ofNat (nat_lit 0))))))⟩, ⟨(some (.l (.r p1))), none, (.move (.c (.sc (.int .i64 (.ofNat (nat_lit 1))))))⟩] [(.r (.l p1)), (.l (.r p1))] r31x5 := by
  intro call ρ st K
  kernel_rfl
noncomputable def r31x6 : RF := fun call ρ st K => binK .neq (ρ (.l (.l p1))) (i6 0) (fun v => (fun v0 st => K [v0] st) v st)
theorem h31x6 : RegOk [⟨(some (.l (.l (.r p2)))), none, (.move (.t (.l (.l p1))))⟩, ⟨(some (.r (.l (.r p2)))), none, (.bin .neq (.t (.l (.l (.r p2)))) (.c (.sc (.int .i64 (.ofNat (nat_lit 0))))))⟩] [(.r (.l (.r p2)))] r31x6 := by
  intro call ρ st K
  kernel_rfl
noncomputable def r31x7 : RF := fun call ρ st K => binK .quo (ρ (.r p2)) (ρ (.l (.l p1))) (fun v => (fun v0 st => K [v0] st) v st)
theorem h31x7 : RegOk [⟨(some (.l (.r (.r p2)))), none, (.move (.t (.r p2)))⟩, ⟨(some (.r (.r (.r p2)))), none, (.move (.t (.l (.l p1))))⟩, ⟨(some (.l (.l (.l (.l p1))))), none, (.bin .quo (.t (.l (.r (.r p2)))) (.t (.r (.r (.r p2)))))⟩, ⟨(some (.r (.r p1))), none, (.move (.t (.l (.l (.l (.l p1))))))⟩] [(.r (.r p1))] r31x7 := by
  intro call ρ st K
  kernel_rfl
noncomputable def r31x8 : RF := fun call ρ st K => binK .mul (ρ (.r (.r p1))) (ρ (.l (.l p1))) (fun v => (fun v0 st => binK .sub (ρ (.r p2)) v0 (fun v => (fun v1 st => K [(ρ (.l (.l p1))), v1] st) v st)) v st)
theorem h31x8 : RegOk [⟨(some (.r (.l (.l (.l p1))))), none, (.move (.t (.l (.l p1))))⟩, ⟨(some (.l (.r (.l (.l p1))))), none, (.move (.t (.r p2)))⟩, ⟨(some (.r (.r (.l (.l p1))))), none, (.move (.t (.r (.r p1))))⟩, ⟨(some (.l (.l (.r (.l p1))))), none, (.move (.t (.l (.l p1))))⟩, ⟨(some (.r (.l (.r (.l p1))))), none, (.bin .mul (.t (.r (.r (.l (.l p1))))) (.t (.l (.l (.r (.l p1))))))⟩, ⟨(some (.l (.r (.r (.l p1))))), none, (.bin .sub (.t (.l (.r (.l (.l p1))))) (.t (.r (.l (.r (.l p1))))))⟩, ⟨(some (.r p2)), none, (.move (.t (.r (.l (.l (.l p1))))))⟩, ⟨(some (.l (.l p1))), none, (.move (.t (.l (.r (.r (.l p1))))))⟩] [(.r p2), (.l (.l p1))] r31x8 := by
  intro call ρ st K
  kernel_rfl
noncomputable def r31x9 : RF := fun call ρ st K => binK .mul (ρ (.r (.r p1))) (ρ (.l (.r p1))) (fun v => (fun v0 st => binK .sub (ρ (.r (.l p1))) v0 (fun v => (fun v1 st => K [(ρ (.l (.r p1))), v1] st) v st)) v st)
theorem h31x9 : RegOk [⟨(some (.r (.r (.r (.l p1))))), none, (.move (.t (.l (.r p1))))⟩, ⟨(some (.l (.l (.l (.r p1))))), none, (.move (.t (.r (.l p1))))⟩, ⟨(some (.r (.l (.l (.r p1))))), none, (.move (.t (.r (.r p1))))⟩, ⟨(some (.l (.r (.l (.r p1))))), none, (.move (.t (.l (.r p1))))⟩, ⟨(some (.r (.r (.l (.r p1))))), none, (.bin .mul (.t (.r (.l (.l (.r p1))))) (.t (.l (.r (.l (.r p1))))))⟩, ⟨(some (.l (.l (.r (.r p1))))), none, (.bin .sub (.t (.l (.l (.l (.r p1))))) (.t (.r (.r (.l (.r p1))))))⟩, ⟨(some (.r (.l p1))), none, (.move (.t (.r (.r (.r (.l p1))))))⟩, ⟨(some (.l (.r p1))), none, (.move (.t (.l (.l (.r (.r p1))))))⟩] [(.r (.l p1)), (.l (.r p1))] r31x9 := by
  intro call ρ st K
  kernel_rfl
noncomputable def r31x10 : RF := fun call ρ st K => binK .lss (ρ (.r (.l p1))) (i6 0) (fun v => (fun v0 st => K [v0] st) v st)
theorem h31x10 : RegOk [⟨(some (.r (.l (.r (.r p1))))), none, (.move (.t (.r (.l p1))))⟩, ⟨(some (.l (.r (.r (.r p1))))), none, (.bin .lss (.t (.r (.l (.r (.r p1))))) (.c (.sc (.int .i64 (.ofNat (nat_lit 0))))))⟩] [(.l (.r (.r (.r p1))))] r31x10 := by
  intro call ρ st K
  kernel_rfl
noncomputable def r31x11 : RF := fun call ρ st K => cnv .i64 (ρ (.l p2)) (fun v => (fun v0 st => binK .add (ρ (.r (.l p1))) v0 (fun v => (fun v1 st => K [v1] st) v st)) v st)
theorem h31x11 : RegOk [⟨(some (.r (.r (.r (.r p1))))), none, (.move (.t (.r (.l p1))))⟩, ⟨(some (.l (.l (.l (.l p2))))), none, (.move (.t (.l p2)))⟩, ⟨(some (.r (.l (.l (.l p2))))), none, (.more (.conv .i64 (.t (.l (.l (.l (.l p2)))))))⟩, ⟨(some (.l (.r (.l (.l p2))))), none, (.bin .add (.t (.r (.r (.r (.r p1))))) (.t (.r (.l (.l (.l p2))))))⟩, ⟨(some (.r (.l p1))), none, (.move (.t (.l (.r (.l (.l p2))))))⟩] [(.r (.l p1))] r31x11 := by
  intro call ρ st K
  kernel_rfl
noncomputable def r31x12 : RF := fun call ρ st K => cnv .u64 (ρ (.r (.l p1))) (fun v => (fun v0 st => K [v0] st) v st)
theorem h31x12 : RegOk [⟨(some (.r (.r (.l (.l p2))))), none, (.move (.t (.r (.l p1))))⟩, ⟨(some (.l (.l (.r (.l p2))))), none, (.more (.conv .u64 (.t (.r (.r (.l (.l p2)))))))⟩, ⟨(some (.r p1)), none, (.move (.t (.l (.l (.r (.l p2))))))⟩] [(.r p1)] r31x12 := by
  intro call ρ st K
  kernel_rfl
/- attestor/field.Inv -/
noncomputable def cf31 : HF := ⟨(.seq (.reg _ _ _ h31x0)
 (.seq (.reg _ _ _ h31x1)
 (.seq (.seq (.reg _ _ _ h31x2)
 (.cond (.t (.r (.l (.r p1)))) (.seq (.reg _ _ _ h31x3)
 .ret)
 .skip))
 (.seq (.drw _ _ _ h31x4)
 (.seq (.reg _ _ _ h31x5)
 (.seq (.block (nat_lit 0) (.loop (.seq (.seq (.reg _ _ _ h31x6)
 (.cond (.t (.r (.l (.r p2)))) .skip
 (.exit (nat_lit 0))))
 (.block (nat_lit 1) (.seq (.reg _ _ _ h31x7)
 (.seq (.reg _ _ _ h31x8)
 (.reg _ _ _ h31x9)))))))
 (.seq (.seq (.reg _ _ _ h31x10)
 (.cond (.t (.l (.r (.r (.r p1))))) (.reg _ _ _ h31x11)
 .skip))
 (.seq (.reg _ _ _ h31x12)
 .ret)))))))), [(.tmp (.r p1))], [p0, p1], [(.l (.l p2)), (.r (.l p2)), (.l (.r p2)), (.r (.r p2)), (.l (.l (.l p1))), (.r (.l (.l p1))), (.l (.r (.l p1))), (.r (.r (.l p1))), (.l (.l (.r p1))), (.l (.r (.r p1))), (.r (.r (.r p1))), (.l (.l (.l p2))), (.r (.l (.l p2))), (.l (.r (.l p2))), (.r (.r (.l p2))), (.l (.l (.r p2))), (.l (.r (.r p2))), (.r (.r (.r p2))), (.l (.l (.l (.l p1)))), (.r (.l (.l (.l p1)))), (.l (.r (.l (.l p1)))), (.r (.r (.l (.l p1)))), (.l (.l (.r (.l p1)))), (.r (.l (.r (.l p1)))), (.l (.r (.r (.l p1)))), (.r (.r (.r (.l p1)))), (.l (.l (.l (.r p1)))), (.r (.l (.l (.r p1)))), (.l (.r (.l (.r p1)))), (.r (.r (.l (.r p1)))), (.l (.l (.r (.r p1)))), (.r (.l (.r (.r p1)))), (.r (.r (.r (.r p1)))), (.l (.l (.l (.l p2)))), (.r (.l (.l (.l p2)))), (.l (.r (.l (.l p2)))), (.r (.r (.l (.l p2)))), (.l (.l (.r (.l p2))))]⟩
noncomputable def r30x0 : RF := fun call ρ st K => binK .geq (ρ p1) (i6 0) (fun v => (fun v0 st => K [v0] st) v st)
theorem h30x0 : RegOk [⟨(some (.r (.l p1))), none, (.move (.t p1))⟩, ⟨(some (.l (.r p1))), none, (.bin .geq (.t (.r (.l p1))) (.c (.sc (.int .i64 (.ofNat (nat_lit 0))))))⟩] [(.l (.r p1))] r30x0 := by
  intro call ρ st K
  kernel_rfl
noncomputable def r30x1 : RF := fun call ρ st K => h_op4_nilCheck (.c (ρ p0)) call ρ st (fun v0 st => ixA (nat_lit 50) (nat_lit 1) v0 (ρ p1) (fun v => (fun v1 st => sto st (nat_lit 1) v1 (ρ (.l p1)) ((fun _ st => K [] st) undefV)) v st))
theorem h30x1 : RegOk [⟨(some (.r (.r p1))), none, (.move (.t p0))⟩, ⟨(some (.l (.l p2))), none, (.move (.t p1))⟩, ⟨(some (.r (.l p2))), none, (.move (.t (.l p1)))⟩, ⟨(some (.l (.r p2))), none, (.more (.more (.more (.nilCheck (.t (.r (.r p1)))))))⟩, ⟨(some (.r (.r p2))), none, (.more (.idxA (nat_lit 50) (nat_lit 1) (.t (.l (.r p2))) (.t (.l (.l p2)))))⟩, ⟨none, none, (.more (.store (nat_lit 1) (.t (.r (.r p2))) (.t (.r (.l p2)))))⟩] [] r30x1 := by
  intro call ρ st K
  kernel_rfl
noncomputable def r30x2 : RF := fun call ρ st K => (fun n0 mk => (fun v st => (fun v0 mk st => (fun v st => (fun v1 mk st => (fun v st => (fun v2 mk st => (fun v st => (fun v3 mk st => binK .add v3 (i6 1) (fun v => (fun v st => (fun v4 mk st => (fun v st => (fun v5 mk st => binK .rem v5 (u6 16) (fun v => (fun v st => (fun v6 mk st => (fun v st => (fun v7 mk st => binK .quo v7 (u6 16) (fun v => (fun v st => (fun v8 mk st => h_op4_nilCheck (.c v0) call ρ st (fun v st => (fun v9 mk st => ixA (nat_lit 50) (nat_lit 1) v9 v1 (fun v => (fun v st => (fun v10 mk st => dw4 n0 mk (nat_lit 2048) (nat_lit 1635) v10 (fun q => sto st (nat_lit 1) v10 v6 ((q) undefV)) (fun _ mk st => h_op4_nilCheck (.c v2) call ρ st (fun v st => (fun v12 mk st => ixA (nat_lit 50) (nat_lit 1) v12 v4 (fun v => (fun v st => (fun v13 mk st => dw4 n0 mk (nat_lit 16384) (nat_lit 16383) v13 (fun q => sto st (nat_lit 1) v13 v8 ((q) undefV)) (fun _ mk st => K [] st)) v mk st) v st)) v mk st))) v mk st) v st)) v mk st)) v mk st) v st)) v mk st) (ρ (.l p1)) st) v mk st) v st)) v mk st) (ρ (.l p1)) st) v mk st) v st)) v mk st) (ρ p2) st) v mk st) (ρ p0) st) v mk st) (ρ p2) st) v mk st) (ρ p0) st) st.next mk0
theorem h30x2 : DrwOk [⟨(some (.l (.l (.l p1)))), none, (.move (.t p0)), (nat_lit 0), (nat_lit 1), (nat_lit 0)⟩, ⟨(some (.r (.l (.l p1)))), none, (.move (.t p2)), (nat_lit 0), (nat_lit 2), (nat_lit 0)⟩, ⟨(some (.l (.r (.l p1)))), none, (.move (.t p0)), (nat_lit 0), (nat_lit 4), (nat_lit 0)⟩, ⟨(some (.r (.r (.l p1)))), none, (.move (.t p2)), (nat_lit 0), (nat_lit 8), (nat_lit 0)⟩, ⟨(some (.l (.l (.r p1)))), none, (.bin .add (.t (.r (.r (.l p1)))) (.c (.sc (.int .i64 (.ofNat (nat_lit 1)))))), (nat_lit 0), (nat_lit 16), (nat_lit 8)⟩, ⟨(some (.r (.l (.r p1)))), none, (.move (.t (.l p1))), (nat_lit 0), (nat_lit 32), (nat_lit 0)⟩, ⟨(some (.l (.r (.r p1)))), none, (.bin .rem (.t (.r (.l (.r p1)))) (.c (.sc (.int .u64 (.ofNat (nat_lit 16)))))), (nat_lit 0), (nat_lit 64), (nat_lit 32)⟩, ⟨(some (.r (.r (.r p1)))), none, (.move (.t (.l p1))), (nat_lit 0), (nat_lit 128), (nat_lit 0)⟩, ⟨(some (.l (.l (.l p2)))), none, (.bin .quo (.t (.r (.r (.r p1)))) (.c (.sc (.int .u64 (.ofNat (nat_lit 16)))))), (nat_lit 0), (nat_lit 256), (nat_lit 128)⟩, ⟨(some (.r (.l (.l p2)))), none, (.more (.more (.more (.nilCheck (.t (.l (.l (.l p1)))))))), (nat_lit 0), (nat_lit 512), (nat_lit 1)⟩, ⟨(some (.l (.r (.l p2)))), none, (.more (.idxA (nat_lit 50) (nat_lit 1) (.t (.r (.l (.l p2)))) (.t (.r (.l (.l p1)))))), (nat_lit 0), (nat_lit 1024), (nat_lit 611)⟩, ⟨none, none, (.more (.store (nat_lit 1) (.t (.l (.r (.l p2)))) (.t (.l (.r (.r p1)))))), (nat_lit 4), (nat_lit 2048), (nat_lit 1635)⟩, ⟨(some (.r (.r (.l p2)))), none, (.more (.more (.more (.nilCheck (.t (.l (.r (.l p1)))))))), (nat_lit 0), (nat_lit 4096), (nat_lit 4)⟩, ⟨(some (.l (.l (.r p2)))), none, (.more (.idxA (nat_lit 50) (nat_lit 1) (.t (.r (.r (.l p2)))) (.t (.l (.l (.r p1)))))), (nat_lit 0), (nat_lit 8192), (nat_lit 8191)⟩, ⟨none, none, (.more (.store (nat_lit 1) (.t (.l (.l (.r p2)))) (.t (.l (.l (.l p2)))))), (nat_lit 4), (nat_lit 16384), (nat_lit 16383)⟩] [] r30x2 := by
  intro call ρ st K
  kernel_rfl
/- (*attestor/trace.row).put -/
noncomputable def cf30 : HF := ⟨(.seq (.seq (.reg _ _ _ h30x0)
 (.cond (.t (.l (.r p1))) (.reg _ _ _ h30x1)
 .skip))
 (.drw _ _ _ h30x2)), [], [p0, p1, p2, (.l p1)], [(.r (.l p1)), (.r (.r p1)), (.l (.l p2)), (.r (.l p2)), (.l (.r p2)), (.r (.r p2)), (.l (.l (.l p1))), (.r (.l (.l p1))), (.l (.r (.l p1))), (.r (.r (.l p1))), (.l (.l (.r p1))), (.r (.l (.r p1))), (.l (.r (.r p1))), (.r (.r (.r p1))), (.l (.l (.l p2))), (.r (.l (.l p2))), (.l (.r (.l p2))), (.r (.r (.l p2))), (.l (.l (.r p2)))]⟩
noncomputable def r29x0 : RF := fun call ρ st K => bxx st (ρ p1) (fun v0 st => alc st [(.int .i64 (.ofNat (nat_lit 0))), (.int .u8 (.ofNat (nat_lit 0))), (.int .u8 (.ofNat (nat_lit 0))), (.int .u8 (.ofNat (nat_lit 0))), (.int .u8 (.ofNat (nat_lit 0))), (.int .u8 (.ofNat (nat_lit 0))), (.int .u8 (.ofNat (nat_lit 0))), (.int .u8 (.ofNat (nat_lit 0))), (.int .u8 (.ofNat (nat_lit 0))), (.int .u8 (.ofNat (nat_lit 0))), (.int .u8 (.ofNat (nat_lit 0))), (.int .u8 (.ofNat (nat_lit 0))), (.int .u8 (.ofNat (nat_lit 0))), (.int .u8 (.ofNat (nat_lit 0))), (.int .u8 (.ofNat (nat_lit 0))), (.int .u8 (.ofNat (nat_lit 0))), (.int .u8 (.ofNat (nat_lit 0))), (.int .u8 (.ofNat (nat_lit 0))), (.int .u8 (.ofNat (nat_lit 0))), (.int .u8 (.ofNat (nat_lit 0))), (.int .u8 (.ofNat (nat_lit 0)))] (fun v1 st => K [v0, v1, (i6 0)] st))
theorem h29x0 : RegOk [⟨(some (.l p1)), none, (.more (.box (.t p1)))⟩, ⟨(some (.r p1)), none, (.more (.alloc [(.int .i64 (.ofNat (nat_lit 0))), (.int .u8 (.ofNat (nat_lit 0))), (.int .u8 (.ofNat (nat_lit 0))), (.int .u8 (.ofNat (nat_lit 0))), (.int .u8 (.ofNat (nat_lit 0))), (.int .u8 (.ofNat (nat_lit 0))), (.int .u8 (.ofNat (nat_lit 0))), (.int .u8 (.ofNat (nat_lit 0))), (.int .u8 (.ofNat (nat_lit 0))), (.int .u8 (.ofNat (nat_lit 0))), (.int .u8 (.ofNat (nat_lit 0))), (.int .u8 (.ofNat (nat_lit 0))), (.int .u8 (.ofNat (nat_lit 0))), (.int .u8 (.ofNat (nat_lit 0))), (.int .u8 (.ofNat (nat_lit 0))), (.int .u8 (.ofNat (nat_lit 0))), (.int .u8 (.ofNat (nat_lit 0))), (.int .u8 (.ofNat (nat_lit 0))), (.int .u8 (.ofNat (nat_lit 0))), (.int .u8 (.ofNat (nat_lit 0))), (.int .u8 (.ofNat (nat_lit 0)))]))⟩, ⟨(some (.l p2)), none, (.move (.c (.sc (.int .i64 (.ofNat (nat_lit 0))))))⟩] [(.l p1), (.r p1), (.l p2)] r29x0 := by
  intro call ρ st K
  kernel_rfl
noncomputable def r29x1 : RF := fun call ρ st K => ldN st (nat_lit 21) (ρ (.l p1)) (fun v => (fun v0 st => call (nat_lit 28) [(ρ p0), v0] st (fun v1 st => nott v1 (fun v => (fun v2 st => K [v2] st) v st))) v st)
theorem h29x1 : RegOk [⟨(some (.r p2)), none, (.move (.t p0))⟩, ⟨(some (.l (.l p1))), none, (.loadN (nat_lit 21) (.t (.l p1)))⟩, ⟨(some (.r (.l p1))), none, (.call (nat_lit 28) [(.t (.r p2)), (.t (.l (.l p1)))])⟩, ⟨(some (.l (.r p1))), none, (.more (.more (.more (.not (.t (.r (.l p1)))))))⟩] [(.l (.r p1))] r29x1 := by
  intro call ρ st K
  kernel_rfl
noncomputable def r29x2 : RF := fun call ρ st K => h_op3_build [(.int .i64 (.ofNat (nat_lit 0))), (.int .u8 (.ofNat (nat_lit 0))), (.int .u8 (.ofNat (nat_lit 0))), (.int .u8 (.ofNat (nat_lit 0))), (.int .u8 (.ofNat (nat_lit 0))), (.int .u8 (.ofNat (nat_lit 0))), (.int .u8 (.ofNat (nat_lit 0))), (.int .u8 (.ofNat (nat_lit 0))), (.int .u8 (.ofNat (nat_lit 0))), (.int .u8 (.ofNat (nat_lit 0))), (.int .u8 (.ofNat (nat_lit 0))), (.int .u8 (.ofNat (nat_lit 0))), (.int .u8 (.ofNat (nat_lit 0))), (.int .u8 (.ofNat (nat_lit 0))), (.int .u8 (.ofNat (nat_lit 0))), (.int .u8 (.ofNat (nat_lit 0))), (.int .u8 (.ofNat (nat_lit 0))), (.int .u8 (.ofNat (nat_lit 0))), (.int .u8 (.ofNat (nat_lit 0))), (.int .u8 (.ofNat (nat_lit 0))), (.int .u8 (.ofNat (nat_lit 0)))] [] call ρ st (fun v0 st => sto st (nat_lit 21) (ρ (.r p1)) v0 ((fun _ st => K [(i6 1)] st) undefV))
theorem h29x2 : RegOk [⟨(some (.r (.r p1))), none, (.more (.more (.build [(.int .i64 (.ofNat (nat_lit 0))), (.int .u8 (.ofNat (nat_lit 0))), (.int .u8 (.ofNat (nat_lit 0))), (.int .u8 (.ofNat (nat_lit 0))), (.int .u8 (.ofNat (nat_lit 0))), (.int .u8 (.ofNat (nat_lit 0))), (.int .u8 (.ofNat (nat_lit 0))), (.int .u8 (.ofNat (nat_lit 0))), (.int .u8 (.ofNat (nat_lit 0))), (.int .u8 (.ofNat (nat_lit 0))), (.int .u8 (.ofNat (nat_lit 0))), (.int .u8 (.ofNat (nat_lit 0))), (.int .u8 (.ofNat (nat_lit 0))), (.int .u8 (.ofNat (nat_lit 0))), (.int .u8 (.ofNat (nat_lit 0))), (.int .u8 (.ofNat (nat_lit 0))), (.int .u8 (.ofNat (nat_lit 0))), (.int .u8 (.ofNat (nat_lit 0))), (.int .u8 (.ofNat (nat_lit 0))), (.int .u8 (.ofNat (nat_lit 0))), (.int .u8 (.ofNat (nat_lit 0)))] [])))⟩, ⟨none, none, (.more (.store (nat_lit 21) (.t (.r p1)) (.t (.r (.r p1)))))⟩, ⟨(some (.l p2)), none, (.move (.c (.sc (.int .i64 (.ofNat (nat_lit 1))))))⟩] [(.l p2)] r29x2 := by
  intro call ρ st K
  kernel_rfl
noncomputable def r29x3 : RF := fun call ρ st K => (fun n0 mk => (fun v st => (fun v0 mk st => fad (nat_lit 0) (ρ (.l p1)) (fun v => (fun v st => (fun v1 mk st => dw2 n0 mk (nat_lit 4) (nat_lit 2) v1 (fun q => ld1 st v1 (fun v => (q) v st)) (fun v2 mk st => dw3 mk (nat_lit 8) (nat_lit 7) st (fun st q => call (nat_lit 18) [v0, v2] st (q)) (fun v3 mk st => dw2 n0 mk (nat_lit 16) (nat_lit 0) (ρ (.l p1)) (fun q => ldN st (nat_lit 21) (ρ (.l p1)) (fun v => (q) v st)) (fun v4 mk st => dw3 mk (nat_lit 32) (nat_lit 31) st (fun st q => call (nat_lit 27) [v3, v4] st (q)) (fun v5 mk st => dw4 n0 mk (nat_lit 64) (nat_lit 63) (ρ (.r p1)) (fun q => sto st (nat_lit 21) (ρ (.r p1)) v5 ((q) undefV)) (fun _ mk st => (fun v st => (fun v7 mk st => K [v7] st) v mk st) (i6 0) st)))))) v mk st) v st)) v mk st) (ρ p0) st) st.next mk0
theorem h29x3 : DrwOk [⟨(some (.l (.l p2))), none, (.move (.t p0)), (nat_lit 0), (nat_lit 1), (nat_lit 0)⟩, ⟨(some (.r (.l p2))), none, (.fa (nat_lit 0) (.t (.l p1))), (nat_lit 0), (nat_lit 2), (nat_lit 0)⟩, ⟨(some (.l (.r p2))), none, (.load1 (.t (.r (.l p2)))), (nat_lit 2), (nat_lit 4), (nat_lit 2)⟩, ⟨(some (.r (.r p2))), none, (.call (nat_lit 18) [(.t (.l (.l p2))), (.t (.l (.r p2)))]), (nat_lit 3), (nat_lit 8), (nat_lit 7)⟩, ⟨(some (.l (.l (.l p1)))), none, (.loadN (nat_lit 21) (.t (.l p1))), (nat_lit 2), (nat_lit 16), (nat_lit 0)⟩, ⟨(some (.r (.l (.l p1)))), none, (.call (nat_lit 27) [(.t (.r (.r p2))), (.t (.l (.l (.l p1))))]), (nat_lit 3), (nat_lit 32), (nat_lit 31)⟩, ⟨none, none, (.more (.store (nat_lit 21) (.t (.r p1)) (.t (.r (.l (.l p1)))))), (nat_lit 4), (nat_lit 64), (nat_lit 63)⟩, ⟨(some (.l p2)), none, (.move (.c (.sc (.int .i64 (.ofNat (nat_lit 0)))))), (nat_lit 0), (nat_lit 128), (nat_lit 127)⟩] [(.l p2)] r29x3 := by
  intro call ρ st K
  kernel_rfl
/- attestor/machine.Step -/
noncomputable def cf29 : HF := ⟨(.seq (.reg _ _ _ h29x0)
 (.seq (.seq (.reg _ _ _ h29x1)
 (.cond (.t (.l (.r p1))) (.seq (.reg _ _ _ h29x2)
 .ret)
 .skip))
 (.seq (.drw _ _ _ h29x3)
 .ret))), [(.cellN (nat_lit 21) (.r p1)), (.tmp (.l p2))], [p0, p1], [(.r p2), (.l (.l p1)), (.r (.l p1)), (.r (.r p1)), (.l (.l p2)), (.r (.l p2)), (.l (.r p2)), (.r (.r p2)), (.l (.l (.l p1))), (.r (.l (.l p1)))]⟩
noncomputable def r27x0 : RF := fun call ρ st K => bxx st (ρ p0) (fun v0 st => bxx st (ρ p1) (fun v1 st => alc st [(.int .i64 (.ofNat (nat_lit 0))), (.int .u8 (.ofNat (nat_lit 0))), (.int .u8 (.ofNat (nat_lit 0))), (.int .u8 (.ofNat (nat_lit 0))), (.int .u8 (.ofNat (nat_lit 0))), (.int .u8 (.ofNat (nat_lit 0))), (.int .u8 (.ofNat (nat_lit 0))), (.int .u8 (.ofNat (nat_lit 0))), (.int .u8 (.ofNat (nat_lit 0))), (.int .u8 (.ofNat (nat_lit 0))), (.int .u8 (.ofNat (nat_lit 0))), (.int .u8 (.ofNat (nat_lit 0))), (.int .u8 (.ofNat (nat_lit 0))), (.int .u8 (.ofNat (nat_lit 0))), (.int .u8 (.ofNat (nat_lit 0))), (.int .u8 (.ofNat (nat_lit 0))), (.int .u8 (.ofNat (nat_lit 0))), (.int .u8 (.ofNat (nat_lit 0))), (.int .u8 (.ofNat (nat_lit 0))), (.int .u8 (.ofNat (nat_lit 0))), (.int .u8 (.ofNat (nat_lit 0)))] (fun v2 st => K [v0, v1, v2] st)))
theorem h27x0 : RegOk [⟨(some p2), none, (.more (.box (.t p0)))⟩, ⟨(some (.l p1)), none, (.more (.box (.t p1)))⟩, ⟨(some (.r p1)), none, (.more (.alloc [(.int .i64 (.ofNat (nat_lit 0))), (.int .u8 (.ofNat (nat_lit 0))), (.int .u8 (.ofNat (nat_lit 0))), (.int .u8 (.ofNat (nat_lit 0))), (.int .u8 (.ofNat (nat_lit 0))), (.int .u8 (.ofNat (nat_lit 0))), (.int .u8 (.ofNat (nat_lit 0))), (.int .u8 (.ofNat (nat_lit 0))), (.int .u8 (.ofNat (nat_lit 0))), (.int .u8 (.ofNat (nat_lit 0))), (.int .u8 (.ofNat (nat_lit 0))), (.int .u8 (.ofNat (nat_lit 0))), (.int .u8 (.ofNat (nat_lit 0))), (.int .u8 (.ofNat (nat_lit 0))), (.int .u8 (.ofNat (nat_lit 0))), (.int .u8 (.ofNat (nat_lit 0))), (.int .u8 (.ofNat (nat_lit 0))), (.int .u8 (.ofNat (nat_lit 0))), (.int .u8 (.ofNat (nat_lit 0))), (.int .u8 (.ofNat (nat_lit 0))), (.int .u8 (.ofNat (nat_lit 0)))]))⟩] [p2, (.l p1), (.r p1)] r27x0 := by
  intro call ρ st K
  kernel_rfl
noncomputable def r27x1 : RF := fun call ρ st K => fad (nat_lit 1) (ρ p2) (fun v => (fun v0 st => ld1 st v0 (fun v => (fun v1 st => fad (nat_lit 1) (ρ (.l p1)) (fun v => (fun v2 st => ixA (nat_lit 4) (nat_lit 1) v2 v1 (fun v => (fun v3 st => K [v3] st) v st)) v st)) v st)) v st)
theorem h27x1 : RegOk [⟨(some (.l (.r p1))), none, (.fa (nat_lit 1) (.t p2))⟩, ⟨(some (.r (.r p1))), none, (.load1 (.t (.l (.r p1))))⟩, ⟨(some (.l (.l p2))), none, (.fa (nat_lit 1) (.t (.l p1)))⟩, ⟨(some (.r (.l p2))), none, (.more (.idxA (nat_lit 4) (nat_lit 1) (.t (.l (.l p2))) (.t (.r (.r p1)))))⟩, ⟨(some (.l p2)), none, (.move (.t (.r (.l p2))))⟩] [(.l p2)] r27x1 := by
  intro call ρ st K
  kernel_rfl
noncomputable def r27x2 : RF := fun call ρ st K => fad (nat_lit 2) (ρ p2) (fun v => (fun v0 st => ld1 st v0 (fun v => (fun v1 st => fad (nat_lit 1) (ρ (.l p1)) (fun v => (fun v2 st => ixA (nat_lit 4) (nat_lit 1) v2 v1 (fun v => (fun v3 st => ld1 st v3 (fun v => (fun v4 st => binK .and v4 (u8 15) (fun v => (fun v5 st => fad (nat_lit 5) (ρ (.l p1)) (fun v => (fun v6 st => ixA (nat_lit 16) (nat_lit 1) v6 v5 (fun v => (fun v7 st => K [v7] st) v st)) v st)) v st)) v st)) v st)) v st)) v st)) v st)
theorem h27x2 : RegOk [⟨(some (.l (.r p2))), none, (.fa (nat_lit 2) (.t p2))⟩, ⟨(some (.r (.r p2))), none, (.load1 (.t (.l (.r p2))))⟩, ⟨(some (.l (.l (.l p1)))), none, (.fa (nat_lit 1) (.t (.l p1)))⟩, ⟨(some (.r (.l (.l p1)))), none, (.more (.idxA (nat_lit 4) (nat_lit 1) (.t (.l (.l (.l p1)))) (.t (.r (.r p2)))))⟩, ⟨(some (.l (.r (.l p1)))), none, (.load1 (.t (.r (.l (.l p1)))))⟩, ⟨(some (.r (.r (.l p1)))), none, (.bin .and (.t (.l (.r (.l p1)))) (.c (.sc (.int .u8 (.ofNat (nat_lit 15))))))⟩, ⟨(some (.l (.l (.r p1)))), none, (.fa (nat_lit 5) (.t (.l p1)))⟩, ⟨(some (.r (.l (.r p1)))), none, (.more (.idxA (nat_lit 16) (nat_lit 1) (.t (.l (.l (.r p1)))) (.t (.r (.r (.l p1))))))⟩, ⟨(some (.r p2)), none, (.move (.t (.r (.l (.r p1)))))⟩] [(.r p2)] r27x2 := by
  intro call ρ st K
  kernel_rfl
noncomputable def r27x3 : RF := fun call ρ st K => fad (nat_lit 0) (ρ p2) (fun v => (fun v0 st => ld1 st v0 (fun v => (fun v1 st => call (nat_lit 49) [v1] st (fun v2 st => h_op4_extract (nat_lit 0) (.c v2) call ρ st (fun v3 st => h_op4_extract (nat_lit 1) (.c v2) call ρ st (fun v4 st => K [v3, v4] st)))) v st)) v st)
theorem h27x3 : RegOk [⟨(some (.r (.r (.r p1)))), none, (.fa (nat_lit 0) (.t p2))⟩, ⟨(some (.l (.l (.l p2)))), none, (.load1 (.t (.r (.r (.r p1)))))⟩, ⟨(some (.r (.l (.l p2)))), none, (.call (nat_lit 49) [(.t (.l (.l (.l p2))))])⟩, ⟨(some (.l (.r (.r p1)))), none, (.move (.t (.r (.l (.l p2)))))⟩, ⟨(some (.l (.r (.l p2)))), none, (.more (.more (.more (.extract (nat_lit 0) (.t (.l (.r (.r p1))))))))⟩, ⟨(some (.r (.r (.l p2)))), none, (.more (.more (.more (.extract (nat_lit 1) (.t (.l (.r (.r p1))))))))⟩, ⟨(some (.l (.l p1))), none, (.move (.t (.l (.r (.l p2)))))⟩, ⟨(some (.r (.l p1))), none, (.move (.t (.r (.r (.l p2)))))⟩] [(.l (.l p1)), (.r (.l p1))] r27x3 := by
  intro call ρ st K
  kernel_rfl
noncomputable def r27x4 : RF := fun call ρ st K => K [(ρ (.r (.l p1)))] st
theorem h27x4 : RegOk [⟨(some (.l (.l (.r p2)))), none, (.move (.t (.r (.l p1))))⟩] [(.l (.l (.r p2)))] r27x4 := by
  intro call ρ st K
  kernel_rfl
noncomputable def r27x5 : RF := fun call ρ st K => (fun n0 mk => (fun v st => (fun v0 mk st => (fun v st => (fun v1 mk st => (fun v st => (fun v2 mk st => h_op4_nilCheck (.c v2) call ρ st (fun v st => (fun v3 mk st => dw2 n0 mk (nat_lit 16) (nat_lit 12) v3 (fun q => ld1 st v3 (fun v => (q) v st)) (fun v4 mk st => fad (nat_lit 2) (ρ p2) (fun v => (fun v st => (fun v5 mk st => dw2 n0 mk (nat_lit 64) (nat_lit 32) v5 (fun q => ld1 st v5 (fun v => (q) v st)) (fun v6 mk st => fad (nat_lit 1) (ρ (.l p1)) (fun v => (fun v st => (fun v7 mk st => ixA (nat_lit 4) (nat_lit 1) v7 v6 (fun v => (fun v st => (fun v8 mk st => dw2 n0 mk (nat_lit 512) (nat_lit 480) v8 (fun q => ld1 st v8 (fun v => (q) v st)) (fun v9 mk st => dw3 mk (nat_lit 1024) (nat_lit 1022) st (fun st q => h_op4_callV (.c v1) [(.c v4), (.c v9)] call ρ st (q)) (fun v10 mk st => h_op4_nilCheck (.c v0) call ρ st (fun v st => (fun v11 mk st => dw4 n0 mk (nat_lit 4096) (nat_lit 4095) v11 (fun q => sto st (nat_lit 1) v11 v10 ((q) undefV)) (fun _ mk st => K [] st)) v mk st)))) v mk st) v st)) v mk st) v st))) v mk st) v st))) v mk st)) v mk st) (ρ (.l p2)) st) v mk st) (ρ (.l (.l p1))) st) v mk st) (ρ (.l p2)) st) st.next mk0
theorem h27x5 : DrwOk [⟨(some (.r (.l (.r p2)))), none, (.move (.t (.l p2))), (nat_lit 0), (nat_lit 1), (nat_lit 0)⟩, ⟨(some (.l (.r (.r p2)))), none, (.move (.t (.l (.l p1)))), (nat_lit 0), (nat_lit 2), (nat_lit 0)⟩, ⟨(some (.r (.r (.r p2)))), none, (.move (.t (.l p2))), (nat_lit 0), (nat_lit 4), (nat_lit 0)⟩, ⟨(some (.l (.l (.l (.l p1))))), none, (.more (.more (.more (.nilCheck (.t (.r (.r (.r p2)))))))), (nat_lit 0), (nat_lit 8), (nat_lit 4)⟩, ⟨(some (.r (.l (.l (.l p1))))), none, (.load1 (.t (.l (.l (.l (.l p1)))))), (nat_lit 2), (nat_lit 16), (nat_lit 12)⟩, ⟨(some (.l (.r (.l (.l p1))))), none, (.fa (nat_lit 2) (.t p2)), (nat_lit 0), (nat_lit 32), (nat_lit 0)⟩, ⟨(some (.r (.r (.l (.l p1))))), none, (.load1 (.t (.l (.r (.l (.l p1)))))), (nat_lit 2), (nat_lit 64), (nat_lit 32)⟩, ⟨(some (.l (.l (.r (.l p1))))), none, (.fa (nat_lit 1) (.t (.l p1))), (nat_lit 0), (nat_lit 128), (nat_lit 0)⟩, ⟨(some (.r (.l (.r (.l p1))))), none, (.more (.idxA (nat_lit 4) (nat_lit 1) (.t (.l (.l (.r (.l p1))))) (.t (.r (.r (.l (.l p1))))))), (nat_lit 0), (nat_lit 256), (nat_lit 224)⟩, ⟨(some (.l (.r (.r (.l p1))))), none, (.load1 (.t (.r (.l (.r (.l p1)))))), (nat_lit 2), (nat_lit 512), (nat_lit 480)⟩, ⟨(some (.r (.r (.r (.l p1))))), none, (.more (.more (.more (.callV (.t (.l (.r (.r p2)))) [(.t (.r (.l (.l (.l p1))))), (.t (.l (.r (.r (.l p1)))))])))), (nat_lit 3), (nat_lit 1024), (nat_lit 1022)⟩, ⟨(some (.l (.l (.l (.r p1))))), none, (.more (.more (.more (.nilCheck (.t (.r (.l (.r p2)))))))), (nat_lit 0), (nat_lit 2048), (nat_lit 2047)⟩, ⟨none, none, (.more (.store (nat_lit 1) (.t (.l (.l (.l (.r p1))))) (.t (.r (.r (.r (.l p1))))))), (nat_lit 4), (nat_lit 4096), (nat_lit 4095)⟩] [] r27x5 := by
  intro call ρ st K
  kernel_rfl
noncomputable def r27x6 : RF := fun call ρ st K => fad (nat_lit 0) (ρ p2) (fun v => (fun v0 st => ld1 st v0 (fun v => (fun v1 st => K [v1] st) v st)) v st)
theorem h27x6 : RegOk [⟨(some (.r (.l (.l (.r p1))))), none, (.fa (nat_lit 0) (.t p2))⟩, ⟨(some (.l (.r (.l (.r p1))))), none, (.load1 (.t (.r (.l (.l (.r p1))))))⟩] [(.l (.r (.l (.r p1))))] r27x6 := by
  intro call ρ st K
  kernel_rfl
noncomputable def r27x7 : RF := fun call ρ st K => binK .eql (ρ (.l (.r (.l (.r p1))))) (u8 0) (fun v => (fun v0 st => K [v0] st) v st)
theorem h27x7 : RegOk [⟨(some (.l (.l (.r (.r p1))))), none, (.bin .eql (.t (.l (.r (.l (.r p1))))) (.c (.sc (.int .u8 (.ofNat (nat_lit 0))))))⟩, ⟨(some (.r (.r (.l (.r p1))))), none, (.move (.t (.l (.l (.r (.r p1))))))⟩] [(.r (.r (.l (.r p1))))] r27x7 := by
  intro call ρ st K
  kernel_rfl
noncomputable def r27x8 : RF := fun call ρ st K => ldN st (nat_lit 21) (ρ (.l p1)) (fun v => (fun v0 st => sto st (nat_lit 21) (ρ (.r p1)) v0 ((fun _ st => K [] st) undefV)) v st)
theorem h27x8 : RegOk [⟨(some (.r (.l (.r (.r p1))))), none, (.loadN (nat_lit 21) (.t (.l p1)))⟩, ⟨none, none, (.more (.store (nat_lit 21) (.t (.r p1)) (.t (.r (.l (.r (.r p1)))))))⟩] [] r27x8 := by
  intro call ρ st K
  kernel_rfl
noncomputable def r27x9 : RF := fun call ρ st K => binK .eql (ρ (.l (.r (.l (.r p1))))) (u8 1) (fun v => (fun v0 st => K [v0] st) v st)
theorem h27x9 : RegOk [⟨(some (.r (.r (.r (.r p1))))), none, (.bin .eql (.t (.l (.r (.l (.r p1))))) (.c (.sc (.int .u8 (.ofNat (nat_lit 1))))))⟩, ⟨(some (.l (.r (.r (.r p1))))), none, (.move (.t (.r (.r (.r (.r p1))))))⟩] [(.l (.r (.r (.r p1))))] r27x9 := by
  intro call ρ st K
  kernel_rfl
noncomputable def r27x10 : RF := fun call ρ st K => fad (nat_lit 3) (ρ p2) (fun v => (fun v0 st => ld1 st v0 (fun v => (fun v1 st => h_op4_nilCheck (.c (ρ (.l p2))) call ρ st (fun v2 st => sto st (nat_lit 1) v2 v1 ((fun _ st => K [] st) undefV))) v st)) v st)
theorem h27x10 : RegOk [⟨(some (.l (.l (.l (.l p2))))), none, (.move (.t (.l p2)))⟩, ⟨(some (.r (.l (.l (.l p2))))), none, (.fa (nat_lit 3) (.t p2))⟩, ⟨(some (.l (.r (.l (.l p2))))), none, (.load1 (.t (.r (.l (.l (.l p2))))))⟩, ⟨(some (.r (.r (.l (.l p2))))), none, (.more (.more (.more (.nilCheck (.t (.l (.l (.l (.l p2)))))))))⟩, ⟨none, none, (.more (.store (nat_lit 1) (.t (.r (.r (.l (.l p2))))) (.t (.l (.r (.l (.l p2)))))))⟩] [] r27x10 := by
  intro call ρ st K
  kernel_rfl
noncomputable def r27x11 : RF := fun call ρ st K => binK .eql (ρ (.l (.r (.l (.r p1))))) (u8 6) (fun v => (fun v0 st => K [v0] st) v st)
theorem h27x11 : RegOk [⟨(some (.r (.l (.r (.l p2))))), none, (.bin .eql (.t (.l (.r (.l (.r p1))))) (.c (.sc (.int .u8 (.ofNat (nat_lit 6))))))⟩, ⟨(some (.l (.l (.r (.l p2))))), none, (.move (.t (.r (.l (.r (.l p2))))))⟩] [(.l (.l (.r (.l p2))))] r27x11 := by
  intro call ρ st K
  kernel_rfl
noncomputable def r27x12 : RF := fun call ρ st K => h_op4_nilCheck (.c (ρ (.r p2))) call ρ st (fun v0 st => ld1 st v0 (fun v => (fun v1 st => h_op4_nilCheck (.c (ρ (.l p2))) call ρ st (fun v2 st => sto st (nat_lit 1) v2 v1 ((fun _ st => K [] st) undefV))) v st))
theorem h27x12 : RegOk [⟨(some (.l (.r (.r (.l p2))))), none, (.move (.t (.l p2)))⟩, ⟨(some (.r (.r (.r (.l p2))))), none, (.move (.t (.r p2)))⟩, ⟨(some (.l (.l (.l (.r p2))))), none, (.more (.more (.more (.nilCheck (.t (.r (.r (.r (.l p2)))))))))⟩, ⟨(some (.r (.l (.l (.r p2))))), none, (.load1 (.t (.l (.l (.l (.r p2))))))⟩, ⟨(some (.l (.r (.l (.r p2))))), none, (.more (.more (.more (.nilCheck (.t (.l (.r (.r (.l p2)))))))))⟩, ⟨none, none, (.more (.store (nat_lit 1) (.t (.l (.r (.l (.r p2))))) (.t (.r (.l (.l (.r p2)))))))⟩] [] r27x12 := by
  intro call ρ st K
  kernel_rfl
noncomputable def r27x13 : RF := fun call ρ st K => binK .eql (ρ (.l (.r (.l (.r p1))))) (u8 7) (fun v => (fun v0 st => K [v0] st) v st)
theorem h27x13 : RegOk [⟨(some (.l (.l (.r (.r p2))))), none, (.bin .eql (.t (.l (.r (.l (.r p1))))) (.c (.sc (.int .u8 (.ofNat (nat_lit 7))))))⟩, ⟨(some (.r (.r (.l (.r p2))))), none, (.move (.t (.l (.l (.r (.r p2))))))⟩] [(.r (.r (.l (.r p2))))] r27x13 := by
  intro call ρ st K
  kernel_rfl
noncomputable def r27x14 : RF := fun call ρ st K => h_op4_nilCheck (.c (ρ (.l p2))) call ρ st (fun v0 st => ld1 st v0 (fun v => (fun v1 st => h_op4_nilCheck (.c (ρ (.r p2))) call ρ st (fun v2 st => sto st (nat_lit 1) v2 v1 ((fun _ st => K [] st) undefV))) v st))
theorem h27x14 : RegOk [⟨(some (.r (.l (.r (.r p2))))), none, (.move (.t (.r p2)))⟩, ⟨(some (.l (.r (.r (.r p2))))), none, (.move (.t (.l p2)))⟩, ⟨(some (.r (.r (.r (.r p2))))), none, (.more (.more (.more (.nilCheck (.t (.l (.r (.r (.r p2)))))))))⟩, ⟨(some (.l (.l (.l (.l (.l p1)))))), none, (.load1 (.t (.r (.r (.r (.r p2))))))⟩, ⟨(some (.r (.l (.l (.l (.l p1)))))), none, (.more (.more (.more (.nilCheck (.t (.r (.l (.r (.r p2)))))))))⟩, ⟨none, none, (.more (.store (nat_lit 1) (.t (.r (.l (.l (.l (.l p1)))))) (.t (.l (.l (.l (.l (.l p1))))))))⟩] [] r27x14 := by
  intro call ρ st K
  kernel_rfl
noncomputable def r27x15 : RF := fun call ρ st K => binK .eql (ρ (.l (.r (.l (.r p1))))) (u8 8) (fun v => (fun v0 st => K [v0] st) v st)
theorem h27x15 : RegOk [⟨(some (.r (.r (.l (.l (.l p1)))))), none, (.bin .eql (.t (.l (.r (.l (.r p1))))) (.c (.sc (.int .u8 (.ofNat (nat_lit 8))))))⟩, ⟨(some (.l (.r (.l (.l (.l p1)))))), none, (.move (.t (.r (.r (.l (.l (.l p1)))))))⟩] [(.l (.r (.l (.l (.l p1)))))] r27x15 := by
  intro call ρ st K
  kernel_rfl
noncomputable def r27x16 : RF := fun call ρ st K => h_op4_nilCheck (.c (ρ (.l p2))) call ρ st (fun v0 st => ld1 st v0 (fun v => (fun v1 st => binK .neq v1 (u8 0) (fun v => (fun v2 st => K [v2] st) v st)) v st))
theorem h27x16 : RegOk [⟨(some (.l (.l (.r (.l (.l p1)))))), none, (.move (.t (.l p2)))⟩, ⟨(some (.r (.l (.r (.l (.l p1)))))), none, (.more (.more (.more (.nilCheck (.t (.l (.l (.r (.l (.l p1))))))))))⟩, ⟨(some (.l (.r (.r (.l (.l p1)))))), none, (.load1 (.t (.r (.l (.r (.l (.l p1)))))))⟩, ⟨(some (.r (.r (.r (.l (.l p1)))))), none, (.bin .neq (.t (.l (.r (.r (.l (.l p1)))))) (.c (.sc (.int .u8 (.ofNat (nat_lit 0))))))⟩] [(.r (.r (.r (.l (.l p1)))))] r27x16 := by
  intro call ρ st K
  kernel_rfl
noncomputable def r27x17 : RF := fun call ρ st K => fad (nat_lit 3) (ρ p2) (fun v => (fun v0 st => ld1 st v0 (fun v => (fun v1 st => cnv .i64 v1 (fun v => (fun v2 st => fad (nat_lit 0) (ρ (.l p1)) (fun v => (fun v3 st => sto st (nat_lit 1) v3 v2 ((fun _ st => K [] st) undefV)) v st)) v st)) v st)) v st)
theorem h27x17 : RegOk [⟨(some (.l (.l (.l (.r (.l p1)))))), none, (.fa (nat_lit 3) (.t p2))⟩, ⟨(some (.r (.l (.l (.r (.l p1)))))), none, (.load1 (.t (.l (.l (.l (.r (.l p1)))))))⟩, ⟨(some (.l (.r (.l (.r (.l p1)))))), none, (.more (.conv .i64 (.t (.r (.l (.l (.r (.l p1))))))))⟩, ⟨(some (.r (.r (.l (.r (.l p1)))))), none, (.fa (nat_lit 0) (.t (.l p1)))⟩, ⟨none, none, (.more (.store (nat_lit 1) (.t (.r (.r (.l (.r (.l p1)))))) (.t (.l (.r (.l (.r (.l p1))))))))⟩] [] r27x17 := by
  intro call ρ st K
  kernel_rfl
noncomputable def r27x18 : RF := fun call ρ st K => ldN st (nat_lit 21) (ρ (.l p1)) (fun v => (fun v0 st => sto st (nat_lit 21) (ρ (.r p1)) v0 ((fun _ st => K [] st) undefV)) v st)
theorem h27x18 : RegOk [⟨(some (.l (.l (.r (.r (.l p1)))))), none, (.loadN (nat_lit 21) (.t (.l p1)))⟩, ⟨none, none, (.more (.store (nat_lit 21) (.t (.r p1)) (.t (.l (.l (.r (.r (.l p1))))))))⟩] [] r27x18 := by
  intro call ρ st K
  kernel_rfl
noncomputable def r27x19 : RF := fun call ρ st K => fad (nat_lit 0) (ρ (.l p1)) (fun v => (fun v0 st => ld1 st v0 (fun v => (fun v1 st => binK .add v1 (i6 1) (fun v => (fun v2 st => fad (nat_lit 0) (ρ (.l p1)) (fun v => (fun v3 st => sto st (nat_lit 1) v3 v2 ((fun _ st => K [] st) undefV)) v st)) v st)) v st)) v st)
theorem h27x19 : RegOk [⟨(some (.r (.l (.r (.r (.l p1)))))), none, (.fa (nat_lit 0) (.t (.l p1)))⟩, ⟨(some (.l (.r (.r (.r (.l p1)))))), none, (.load1 (.t (.r (.l (.r (.r (.l p1)))))))⟩, ⟨(some (.r (.r (.r (.r (.l p1)))))), none, (.bin .add (.t (.l (.r (.r (.r (.l p1)))))) (.c (.sc (.int .i64 (.ofNat (nat_lit 1))))))⟩, ⟨(some (.l (.l (.l (.l (.r p1)))))), none, (.fa (nat_lit 0) (.t (.l p1)))⟩, ⟨none, none, (.more (.store (nat_lit 1) (.t (.l (.l (.l (.l (.r p1)))))) (.t (.r (.r (.r (.r (.l p1))))))))⟩] [] r27x19 := by
  intro call ρ st K
  kernel_rfl
noncomputable def r27x20 : RF := fun call ρ st K => ldN st (nat_lit 21) (ρ (.l p1)) (fun v => (fun v0 st => sto st (nat_lit 21) (ρ (.r p1)) v0 ((fun _ st => K [] st) undefV)) v st)
theorem h27x20 : RegOk [⟨(some (.r (.l (.l (.l (.r p1)))))), none, (.loadN (nat_lit 21) (.t (.l p1)))⟩, ⟨none, none, (.more (.store (nat_lit 21) (.t (.r p1)) (.t (.r (.l (.l (.l (.r p1))))))))⟩] [] r27x20 := by
  intro call ρ st K
  kernel_rfl
/- attestor/machine.step -/
noncomputable def cf27 : HF := ⟨(.seq (.reg _ _ _ h27x0)
 (.seq (.reg _ _ _ h27x1)
 (.seq (.reg _ _ _ h27x2)
 (.seq (.seq (.reg _ _ _ h27x3)
 (.seq (.reg _ _ _ h27x4)
 (.cond (.t (.l (.l (.r p2)))) (.drw _ _ _ h27x5)
 .skip)))
 (.seq (.seq (.reg _ _ _ h27x6)
 (.block (nat_lit 0) (.seq (.reg _ _ _ h27x7)
 (.cond (.t (.r (.r (.l (.r p1))))) (.seq (.reg _ _ _ h27x8)
 .ret)
 (.seq (.reg _ _ _ h27x9)
 (.cond (.t (.l (.r (.r (.r p1))))) (.reg _ _ _ h27x10)
 (.seq (.reg _ _ _ h27x11)
 (.cond (.t (.l (.l (.r (.l p2))))) (.reg _ _ _ h27x12)
 (.seq (.reg _ _ _ h27x13)
 (.cond (.t (.r (.r (.l (.r p2))))) (.reg _ _ _ h27x14)
 (.seq (.reg _ _ _ h27x15)
 (.cond (.t (.l (.r (.l (.l (.l p1)))))) (.seq (.reg _ _ _ h27x16)
 (.cond (.t (.r (.r (.r (.l (.l p1)))))) (.seq (.reg _ _ _ h27x17)
 (.seq (.reg _ _ _ h27x18)
 .ret))
 .skip))
 .skip))))))))))))
 (.seq (.reg _ _ _ h27x19)
 (.seq (.reg _ _ _ h27x20)
 .ret))))))), [(.cellN (nat_lit 21) (.r p1))], [p0, p1], [(.l (.r p1)), (.r (.r p1)), (.l (.l p2)), (.r (.l p2)), (.l (.r p2)), (.r (.r p2)), (.l (.l (.l p1))), (.r (.l (.l p1))), (.l (.r (.l p1))), (.r (.r (.l p1))), (.l (.l (.r p1))), (.r (.l (.r p1))), (.r (.r (.r p1))), (.l (.l (.l p2))), (.r (.l (.l p2))), (.l (.r (.r p1))), (.l (.r (.l p2))), (.r (.r (.l p2))), (.r (.l (.r p2))), (.l (.r (.r p2))), (.r (.r (.r p2))), (.l (.l (.l (.l p1)))), (.r (.l (.l (.l p1)))), (.l (.r (.l (.l p1)))), (.r (.r (.l (.l p1)))), (.l (.l (.r (.l p1)))), (.r (.l (.r (.l p1)))), (.l (.r (.r (.l p1)))), (.r (.r (.r (.l p1)))), (.l (.l (.l (.r p1)))), (.r (.l (.l (.r p1)))), (.l (.l (.r (.r p1)))), (.r (.l (.r (.r p1)))), (.r (.r (.r (.r p1)))), (.l (.l (.l (.l p2)))), (.r (.l (.l (.l p2)))), (.l (.r (.l (.l p2)))), (.r (.r (.l (.l p2)))), (.r (.l (.r (.l p2)))), (.l (.r (.r (.l p2)))), (.r (.r (.r (.l p2)))), (.l (.l (.l (.r p2)))), (.r (.l (.l (.r p2)))), (.l (.r (.l (.r p2)))), (.l (.l (.r (.r p2)))), (.r (.l (.r (.r p2)))), (.l (.r (.r (.r p2)))), (.r (.r (.r (.r p2)))), (.l (.l (.l (.l (.l p1))))), (.r (.l (.l (.l (.l p1))))), (.r (.r (.l (.l (.l p1))))), (.l (.l (.r (.l (.l p1))))), (.r (.l (.r (.l (.l p1))))), (.l (.r (.r (.l (.l p1))))), (.l (.l (.l (.r (.l p1))))), (.r (.l (.l (.r (.l p1))))), (.l (.r (.l (.r (.l p1))))), (.r (.r (.l (.r (.l p1))))), (.l (.l (.r (.r (.l p1))))), (.r (.l (.r (.r (.l p1))))), (.l (.r (.r (.r (.l p1))))), (.r (.r (.r (.r (.l p1))))), (.l (.l (.l (.l (.r p1))))), (.r (.l (.l (.l (.r p1)))))]⟩
noncomputable def r49x0 : RF := fun call ρ st K => K [(.sc (.lit .nilFunc)), (.sc (.bool false))] st
theorem h49x0 : RegOk [⟨(some p2), none, (.move (.c (.sc (.lit .nilFunc))))⟩, ⟨(some (.l p1)), none, (.move (.c (.sc (.bool false))))⟩] [p2, (.l p1)] r49x0 := by
  intro call ρ st K
  kernel_rfl
noncomputable def r49x1 : RF := fun call ρ st K => K [(ρ p0)] st
theorem h49x1 : RegOk [⟨(some (.r p1)), none, (.move (.t p0))⟩] [(.r p1)] r49x1 := by
  intro call ρ st K
  kernel_rfl
noncomputable def r49x2 : RF := fun call ρ st K => binK .eql (ρ (.r p1)) (u8 2) (fun v => (fun v0 st => K [v0] st) v st)
theorem h49x2 : RegOk [⟨(some (.r p2)), none, (.bin .eql (.t (.r p1)) (.c (.sc (.int .u8 (.ofNat (nat_lit 2))))))⟩, ⟨(some (.l p2)), none, (.move (.t (.r p2)))⟩] [(.l p2)] r49x2 := by
  intro call ρ st K
  kernel_rfl
noncomputable def r49x3 : RF := fun call ρ st K => (fun v0 => K [v0, (.sc (.bool true))] st) (.sc (.fn (nat_lit 64)))
theorem h49x3 : RegOk [⟨(some p2), none, (.move (.c (.sc (.fn (nat_lit 64)))))⟩, ⟨(some (.l p1)), none, (.move (.c (.sc (.bool true))))⟩] [p2, (.l p1)] r49x3 := by
  intro call ρ st K
  kernel_rfl
noncomputable def r49x4 : RF := fun call ρ st K => binK .eql (ρ (.r p1)) (u8 3) (fun v => (fun v0 st => K [v0] st) v st)
theorem h49x4 : RegOk [⟨(some (.r (.l p1))), none, (.bin .eql (.t (.r p1)) (.c (.sc (.int .u8 (.ofNat (nat_lit 3))))))⟩, ⟨(some (.l (.l p1))), none, (.move (.t (.r (.l p1))))⟩] [(.l (.l p1))] r49x4 := by
  intro call ρ st K
  kernel_rfl
noncomputable def r49x5 : RF := fun call ρ st K => (fun v0 => K [v0, (.sc (.bool true))] st) (.sc (.fn (nat_lit 65)))
theorem h49x5 : RegOk [⟨(some p2), none, (.move (.c (.sc (.fn (nat_lit 65)))))⟩, ⟨(some (.l p1)), none, (.move (.c (.sc (.bool true))))⟩] [p2, (.l p1)] r49x5 := by
  intro call ρ st K
  kernel_rfl
noncomputable def r49x6 : RF := fun call ρ st K => binK .eql (ρ (.r p1)) (u8 4) (fun v => (fun v0 st => K [v0] st) v st)
theorem h49x6 : RegOk [⟨(some (.r (.r p1))), none, (.bin .eql (.t (.r p1)) (.c (.sc (.int .u8 (.ofNat (nat_lit 4))))))⟩, ⟨(some (.l (.r p1))), none, (.move (.t (.r (.r p1))))⟩] [(.l (.r p1))] r49x6 := by
  intro call ρ st K
  kernel_rfl
noncomputable def r49x7 : RF := fun call ρ st K => (fun v0 => K [v0, (.sc (.bool true))] st) (.sc (.fn (nat_lit 66)))
theorem h49x7 : RegOk [⟨(some p2), none, (.move (.c (.sc (.fn (nat_lit 66)))))⟩, ⟨(some (.l p1)), none, (.move (.c (.sc (.bool true))))⟩] [p2, (.l p1)] r49x7 := by
  intro call ρ st K
  kernel_rfl
noncomputable def r49x8 : RF := fun call ρ st K => binK .eql (ρ (.r p1)) (u8 5) (fun v => (fun v0 st => K [v0] st) v st)
theorem h49x8 : RegOk [⟨(some (.r (.l p2))), none, (.bin .eql (.t (.r p1)) (.c (.sc (.int .u8 (.ofNat (nat_lit 5))))))⟩, ⟨(some (.l (.l p2))), none, (.move (.t (.r (.l p2))))⟩] [(.l (.l p2))] r49x8 := by
  intro call ρ st K
  kernel_rfl
noncomputable def r49x9 : RF := fun call ρ st K => (fun v0 => K [v0, (.sc (.bool true))] st) (.sc (.fn (nat_lit 67)))
theorem h49x9 : RegOk [⟨(some p2), none, (.move (.c (.sc (.fn (nat_lit 67)))))⟩, ⟨(some (.l p1)), none, (.move (.c (.sc (.bool true))))⟩] [p2, (.l p1)] r49x9 := by
  intro call ρ st K
  kernel_rfl
noncomputable def r49x10 : RF := fun call ρ st K => K [(.sc (.lit .nilFunc)), (.sc (.bool false))] st
theorem h49x10 : RegOk [⟨(some p2), none, (.move (.c (.sc (.lit .nilFunc))))⟩, ⟨(some (.l p1)), none, (.move (.c (.sc (.bool false))))⟩] [p2, (.l p1)] r49x10 := by
  intro call ρ st K
  kernel_rfl
/- attestor/machine.arithmetic -/
noncomputable def cf49 : HF := ⟨(.seq (.reg _ _ _ h49x0)
 (.seq (.seq (.reg _ _ _ h49x1)
 (.block (nat_lit 0) (.seq (.reg _ _ _ h49x2)
 (.cond (.t (.l p2)) (.seq (.reg _ _ _ h49x3)
 .ret)
 (.seq (.reg _ _ _ h49x4)
 (.cond (.t (.l (.l p1))) (.seq (.reg _ _ _ h49x5)
 .ret)
 (.seq (.reg _ _ _ h49x6)
 (.cond (.t (.l (.r p1))) (.seq (.reg _ _ _ h49x7)
 .ret)
 (.seq (.reg _ _ _ h49x8)
 (.cond (.t (.l (.l p2))) (.seq (.reg _ _ _ h49x9)
 .ret)
 .skip))))))))))
 (.seq (.reg _ _ _ h49x10)
 .ret))), [(.tmp p2), (.tmp (.l p1))], [p0], [(.r p2), (.r (.l p1)), (.r (.r p1)), (.r (.l p2))]⟩
noncomputable def r67x0 : RF := fun call ρ st K => K [(u8 0)] st
theorem h67x0 : RegOk [⟨(some (.r p1)), none, (.move (.c (.sc (.int .u8 (.ofNat (nat_lit 0))))))⟩] [(.r p1)] r67x0 := by
  intro call ρ st K
  kernel_rfl
noncomputable def r67x1 : RF := fun call ρ st K => binK .mul (ρ p0) (ρ p1) (fun v => (fun v0 st => K [v0] st) v st)
theorem h67x1 : RegOk [⟨(some (.l p2)), none, (.move (.t p0))⟩, ⟨(some (.r p2)), none, (.move (.t p1))⟩, ⟨(some (.l (.l p1))), none, (.bin .mul (.t (.l p2)) (.t (.r p2)))⟩, ⟨(some (.r p1)), none, (.move (.t (.l (.l p1))))⟩] [(.r p1)] r67x1 := by
  intro call ρ st K
  kernel_rfl
/- attestor/machine.arithmetic$4 -/
noncomputable def cf67 : HF := ⟨(.seq (.reg _ _ _ h67x0)
 (.seq (.reg _ _ _ h67x1)
 .ret)), [(.tmp (.r p1))], [p0, p1], [(.l p2), (.r p2), (.l (.l p1))]⟩
noncomputable def r66x0 : RF := fun call ρ st K => K [(u8 0)] st
theorem h66x0 : RegOk [⟨(some (.r p1)), none, (.move (.c (.sc (.int .u8 (.ofNat (nat_lit 0))))))⟩] [(.r p1)] r66x0 := by
  intro call ρ st K
  kernel_rfl
noncomputable def r66x1 : RF := fun call ρ st K => binK .sub (ρ p0) (ρ p1) (fun v => (fun v0 st => K [v0] st) v st)
theorem h66x1 : RegOk [⟨(some (.l p2)), none, (.move (.t p0))⟩, ⟨(some (.r p2)), none, (.move (.t p1))⟩, ⟨(some (.l (.l p1))), none, (.bin .sub (.t (.l p2)) (.t (.r p2)))⟩, ⟨(some (.r p1)), none, (.move (.t (.l (.l p1))))⟩] [(.r p1)] r66x1 := by
  intro call ρ st K
  kernel_rfl
/- attestor/machine.arithmetic$3 -/
noncomputable def cf66 : HF := ⟨(.seq (.reg _ _ _ h66x0)
 (.seq (.reg _ _ _ h66x1)
 .ret)), [(.tmp (.r p1))], [p0, p1], [(.l p2), (.r p2), (.l (.l p1))]⟩
noncomputable def r65x0 : RF := fun call ρ st K => K [(u8 0)] st
theorem h65x0 : RegOk [⟨(some (.r p1)), none, (.move (.c (.sc (.int .u8 (.ofNat (nat_lit 0))))))⟩] [(.r p1)] r65x0 := by
  intro call ρ st K
  kernel_rfl
noncomputable def r65x1 : RF := fun call ρ st K => binK .add (ρ p0) (ρ p1) (fun v => (fun v0 st => K [v0] st) v st)
theorem h65x1 : RegOk [⟨(some (.l p2)), none, (.move (.t p0))⟩, ⟨(some (.r p2)), none, (.move (.t p1))⟩, ⟨(some (.l (.l p1))), none, (.bin .add (.t (.l p2)) (.t (.r p2)))⟩, ⟨(some (.r p1)), none, (.move (.t (.l (.l p1))))⟩] [(.r p1)] r65x1 := by
  intro call ρ st K
  kernel_rfl
/- attestor/machine.arithmetic$2 -/
noncomputable def cf65 : HF := ⟨(.seq (.reg _ _ _ h65x0)
 (.seq (.reg _ _ _ h65x1)
 .ret)), [(.tmp (.r p1))], [p0, p1], [(.l p2), (.r p2), (.l (.l p1))]⟩
noncomputable def r64x0 : RF := fun call ρ st K => K [(u8 0)] st
theorem h64x0 : RegOk [⟨(some (.r p1)), none, (.move (.c (.sc (.int .u8 (.ofNat (nat_lit 0))))))⟩] [(.r p1)] r64x0 := by
  intro call ρ st K
  kernel_rfl
noncomputable def r64x1 : RF := fun call ρ st K => K [(ρ p1)] st
theorem h64x1 : RegOk [⟨(some (.l p2)), none, (.move (.t p1))⟩, ⟨(some (.r p1)), none, (.move (.t (.l p2)))⟩] [(.r p1)] r64x1 := by
  intro call ρ st K
  kernel_rfl
/- attestor/machine.arithmetic$1 -/
noncomputable def cf64 : HF := ⟨(.seq (.reg _ _ _ h64x0)
 (.seq (.reg _ _ _ h64x1)
 .ret)), [(.tmp (.r p1))], [p0, p1], [(.l p2)]⟩
noncomputable def r28x0 : RF := fun call ρ st K => bxx st (ρ p1) (fun v0 st => K [v0, (.sc (.bool false))] st)
theorem h28x0 : RegOk [⟨(some (.l p1)), none, (.more (.box (.t p1)))⟩, ⟨(some (.r p1)), none, (.move (.c (.sc (.bool false))))⟩] [(.l p1), (.r p1)] r28x0 := by
  intro call ρ st K
  kernel_rfl
noncomputable def r28x1 : RF := fun call ρ st K => fad (nat_lit 0) (ρ (.l p1)) (fun v => (fun v0 st => ld1 st v0 (fun v => (fun v1 st => binK .geq v1 (i6 0) (fun v => (fun v2 st => jn true v2 (fun j => fad (nat_lit 0) (ρ (.l p1)) (fun v => (j) v st)) st (fun v3 st => jn true v2 (fun j => ld1 st v3 (fun v => (j) v st)) st (fun v4 st => jn true v2 (fun j => (j) (ρ p0) st) st (fun v5 st => jn true v2 (fun j => lnS v5 (fun v => (j) v st)) st (fun v6 st => jn true v2 (fun j => binK .leq v4 v6 (fun v => (j) v st)) st (fun v7 st => pck v2 v7 (.sc (.bool false)) (fun v => (fun v8 st => jn true v8 (fun j => (j) (ρ p0) st) st (fun v9 st => jn true v8 (fun j => call (nat_lit 25) [v9] st (j)) st (fun v10 st => jn true v8 (fun j => binK .eql v10 (i6 0) (fun v => (j) v st)) st (fun v11 st => pck v8 v11 (.sc (.bool false)) (fun v => (fun v12 st => K [v12] st) v st))))) v st))))))) v st)) v st)) v st)
theorem h28x1 : RegOk [⟨(some (.l p2)), none, (.fa (nat_lit 0) (.t (.l p1)))⟩, ⟨(some (.r p2)), none, (.load1 (.t (.l p2)))⟩, ⟨(some (.l (.l p1))), none, (.bin .geq (.t (.r p2)) (.c (.sc (.int .i64 (.ofNat (nat_lit 0))))))⟩, ⟨(some (.r (.l p1))), none, (.move (.t (.l (.l p1))))⟩, ⟨(some (.l (.r p1))), (some ((.r (.l p1)), true)), (.fa (nat_lit 0) (.t (.l p1)))⟩, ⟨(some (.r (.r p1))), (some ((.r (.l p1)), true)), (.load1 (.t (.l (.r p1))))⟩, ⟨(some (.l (.l p2))), (some ((.r (.l p1)), true)), (.move (.t p0))⟩, ⟨(some (.r (.l p2))), (some ((.r (.l p1)), true)), (.more (.len (.t (.l (.l p2)))))⟩, ⟨(some (.l (.r p2))), (some ((.r (.l p1)), true)), (.bin .leq (.t (.r (.r p1))) (.t (.r (.l p2))))⟩, ⟨(some (.r (.r p2))), none, (.more (.pick (.t (.r (.l p1))) (.t (.l (.r p2))) (.c (.sc (.bool false)))))⟩, ⟨(some (.l (.l (.l p1)))), none, (.move (.t (.r (.r p2))))⟩, ⟨(some (.r (.l (.l p1)))), (some ((.l (.l (.l p1))), true)), (.move (.t p0))⟩, ⟨(some (.l (.r (.l p1)))), (some ((.l (.l (.l p1))), true)), (.call (nat_lit 25) [(.t (.r (.l (.l p1))))])⟩, ⟨(some (.r (.r (.l p1)))), (some ((.l (.l (.l p1))), true)), (.bin .eql (.t (.l (.r (.l p1)))) (.c (.sc (.int .i64 (.ofNat (nat_lit 0))))))⟩, ⟨(some (.l (.l (.r p1)))), none, (.more (.pick (.t (.l (.l (.l p1)))) (.t (.r (.r (.l p1)))) (.c (.sc (.bool false)))))⟩, ⟨(some (.r p1)), none, (.move (.t (.l (.l (.r p1)))))⟩] [(.r p1)] r28x1 := by
  intro call ρ st K
  kernel_rfl
/- attestor/machine.Valid -/
noncomputable def cf28 : HF := ⟨(.seq (.reg _ _ _ h28x0)
 (.seq (.reg _ _ _ h28x1)
 .ret)), [(.tmp (.r p1))], [p0, p1], [(.l p2), (.r p2), (.l (.l p1)), (.r (.l p1)), (.l (.r p1)), (.r (.r p1)), (.l (.l p2)), (.r (.l p2)), (.l (.r p2)), (.r (.r p2)), (.l (.l (.l p1))), (.r (.l (.l p1))), (.l (.r (.l p1))), (.r (.r (.l p1))), (.l (.l (.r p1)))]⟩
noncomputable def r13x0 : RF := fun call ρ st K => bxx st (ρ p1) (fun v0 st => K [v0, (.sc (.bool false))] st)
theorem h13x0 : RegOk [⟨(some (.l p1)), none, (.more (.box (.t p1)))⟩, ⟨(some (.r p1)), none, (.move (.c (.sc (.bool false))))⟩] [(.l p1), (.r p1)] r13x0 := by
  intro call ρ st K
  kernel_rfl
noncomputable def r13x1 : RF := fun call ρ st K => ldN st (nat_lit 21) (ρ (.l p1)) (fun v => (fun v0 st => call (nat_lit 28) [(ρ p0), v0] st (fun v1 st => jn true v1 (fun j => (j) (ρ p0) st) st (fun v2 st => jn true v1 (fun j => fad (nat_lit 0) (ρ (.l p1)) (fun v => (j) v st)) st (fun v3 st => jn true v1 (fun j => ld1 st v3 (fun v => (j) v st)) st (fun v4 st => jn true v1 (fun j => call (nat_lit 18) [v2, v4] st (j)) st (fun v5 st => jn true v1 (fun j => h_op3_build [(.int .u8 (.ofNat (nat_lit 0))), (.int .u8 (.ofNat (nat_lit 0))), (.int .u8 (.ofNat (nat_lit 0))), (.int .u8 (.ofNat (nat_lit 0)))] [] call ρ st (j)) st (fun v6 st => jn true v1 (fun j => h_op4_eqv (.flat [(nat_lit 1), (nat_lit 1), (nat_lit 1), (nat_lit 1)]) false (.c v5) (.c v6) call ρ st (j)) st (fun v7 st => pck v1 v7 (.sc (.bool false)) (fun v => (fun v8 st => K [v8] st) v st))))))))) v st)
theorem h13x1 : RegOk [⟨(some (.l p2)), none, (.move (.t p0))⟩, ⟨(some (.r p2)), none, (.loadN (nat_lit 21) (.t (.l p1)))⟩, ⟨(some (.l (.l p1))), none, (.call (nat_lit 28) [(.t (.l p2)), (.t (.r p2))])⟩, ⟨(some (.r (.l p1))), none, (.move (.t (.l (.l p1))))⟩, ⟨(some (.l (.r p1))), (some ((.r (.l p1)), true)), (.move (.t p0))⟩, ⟨(some (.r (.r p1))), (some ((.r (.l p1)), true)), (.fa (nat_lit 0) (.t (.l p1)))⟩, ⟨(some (.l (.l p2))), (some ((.r (.l p1)), true)), (.load1 (.t (.r (.r p1))))⟩, ⟨(some (.r (.l p2))), (some ((.r (.l p1)), true)), (.call (nat_lit 18) [(.t (.l (.r p1))), (.t (.l (.l p2)))])⟩, ⟨(some (.l (.r p2))), (some ((.r (.l p1)), true)), (.more (.more (.build [(.int .u8 (.ofNat (nat_lit 0))), (.int .u8 (.ofNat (nat_lit 0))), (.int .u8 (.ofNat (nat_lit 0))), (.int .u8 (.ofNat (nat_lit 0)))] [])))⟩, ⟨(some (.r (.r p2))), (some ((.r (.l p1)), true)), (.more (.more (.more (.eqv (.flat [(nat_lit 1), (nat_lit 1), (nat_lit 1), (nat_lit 1)]) false (.t (.r (.l p2))) (.t (.l (.r p2)))))))⟩, ⟨(some (.l (.l (.l p1)))), none, (.more (.pick (.t (.r (.l p1))) (.t (.r (.r p2))) (.c (.sc (.bool false)))))⟩, ⟨(some (.r p1)), none, (.move (.t (.l (.l (.l p1)))))⟩] [(.r p1)] r13x1 := by
  intro call ρ st K
  kernel_rfl
/- attestor/machine.Halted -/
noncomputable def cf13 : HF := ⟨(.seq (.reg _ _ _ h13x0)
 (.seq (.reg _ _ _ h13x1)
 .ret)), [(.tmp (.r p1))], [p0, p1], [(.l p2), (.r p2), (.l (.l p1)), (.r (.l p1)), (.l (.r p1)), (.r (.r p1)), (.l (.l p2)), (.r (.l p2)), (.l (.r p2)), (.r (.r p2)), (.l (.l (.l p1)))]⟩
noncomputable def r11x0 : RF := fun call ρ st K => bxx st (ρ p1) (fun v0 st => K [v0, (.sc .nils), (i6 0)] st)
theorem h11x0 : RegOk [⟨(some (.r p1)), none, (.more (.box (.t p1)))⟩, ⟨(some (.r p2)), none, (.move (.c (.sc .nils)))⟩, ⟨(some (.l (.l p1))), none, (.move (.c (.sc (.int .i64 (.ofNat (nat_lit 0))))))⟩] [(.r p1), (.r p2), (.l (.l p1))] r11x0 := by
  intro call ρ st K
  kernel_rfl
noncomputable def r11x1 : RF := fun call ρ st K => ldN st (nat_lit 21) (ρ (.r p1)) (fun v => (fun v0 st => call (nat_lit 26) [(ρ p0), v0, (ρ p2)] st (fun v1 st => K [v1] st)) v st)
theorem h11x1 : RegOk [⟨(some (.l (.l p2))), none, (.move (.t p0))⟩, ⟨(some (.r (.l p2))), none, (.loadN (nat_lit 21) (.t (.r p1)))⟩, ⟨(some (.l (.r p2))), none, (.move (.t p2))⟩, ⟨(some (.r (.r p2))), none, (.call (nat_lit 26) [(.t (.l (.l p2))), (.t (.r (.l p2))), (.t (.l (.r p2)))])⟩, ⟨(some (.r (.l p1))), none, (.move (.t (.r (.r p2))))⟩] [(.r (.l p1))] r11x1 := by
  intro call ρ st K
  kernel_rfl
noncomputable def r11x2 : RF := fun call ρ st K => binK .neq (ρ (.r (.l p1))) (i6 0) (fun v => (fun v0 st => K [v0] st) v st)
theorem h11x2 : RegOk [⟨(some (.l (.l (.l p1)))), none, (.move (.t (.r (.l p1))))⟩, ⟨(some (.r (.l (.l p1)))), none, (.bin .neq (.t (.l (.l (.l p1)))) (.c (.sc (.int .i64 (.ofNat (nat_lit 0))))))⟩] [(.r (.l (.l p1)))] r11x2 := by
  intro call ρ st K
  kernel_rfl
noncomputable def r11x3 : RF := fun call ρ st K => K [(.sc .nils), (ρ (.r (.l p1)))] st
theorem h11x3 : RegOk [⟨(some (.l (.r (.l p1)))), none, (.move (.t (.r (.l p1))))⟩, ⟨(some (.r p2)), none, (.move (.c (.sc .nils)))⟩, ⟨(some (.l (.l p1))), none, (.move (.t (.l (.r (.l p1)))))⟩] [(.r p2), (.l (.l p1))] r11x3 := by
  intro call ρ st K
  kernel_rfl
noncomputable def r11x4 : RF := fun call ρ st K => h_op3_makeS (nat_lit 21) (nat_lit 32) [(.int .i64 (.ofNat (nat_lit 0))), (.int .u8 (.ofNat (nat_lit 0))), (.int .u8 (.ofNat (nat_lit 0))), (.int .u8 (.ofNat (nat_lit 0))), (.int .u8 (.ofNat (nat_lit 0))), (.int .u8 (.ofNat (nat_lit 0))), (.int .u8 (.ofNat (nat_lit 0))), (.int .u8 (.ofNat (nat_lit 0))), (.int .u8 (.ofNat (nat_lit 0))), (.int .u8 (.ofNat (nat_lit 0))), (.int .u8 (.ofNat (nat_lit 0))), (.int .u8 (.ofNat (nat_lit 0))), (.int .u8 (.ofNat (nat_lit 0))), (.int .u8 (.ofNat (nat_lit 0))), (.int .u8 (.ofNat (nat_lit 0))), (.int .u8 (.ofNat (nat_lit 0))), (.int .u8 (.ofNat (nat_lit 0))), (.int .u8 (.ofNat (nat_lit 0))), (.int .u8 (.ofNat (nat_lit 0))), (.int .u8 (.ofNat (nat_lit 0))), (.int .u8 (.ofNat (nat_lit 0)))] (.c (ρ p2)) (.c (ρ p2)) call ρ st (fun v0 st => K [v0] st)
theorem h11x4 : RegOk [⟨(some (.r (.r (.l p1)))), none, (.move (.t p2))⟩, ⟨(some (.l (.l (.r p1)))), none, (.more (.more (.makeS (nat_lit 21) (nat_lit 32) [(.int .i64 (.ofNat (nat_lit 0))), (.int .u8 (.ofNat (nat_lit 0))), (.int .u8 (.ofNat (nat_lit 0))), (.int .u8 (.ofNat (nat_lit 0))), (.int .u8 (.ofNat (nat_lit 0))), (.int .u8 (.ofNat (nat_lit 0))), (.int .u8 (.ofNat (nat_lit 0))), (.int .u8 (.ofNat (nat_lit 0))), (.int .u8 (.ofNat (nat_lit 0))), (.int .u8 (.ofNat (nat_lit 0))), (.int .u8 (.ofNat (nat_lit 0))), (.int .u8 (.ofNat (nat_lit 0))), (.int .u8 (.ofNat (nat_lit 0))), (.int .u8 (.ofNat (nat_lit 0))), (.int .u8 (.ofNat (nat_lit 0))), (.int .u8 (.ofNat (nat_lit 0))), (.int .u8 (.ofNat (nat_lit 0))), (.int .u8 (.ofNat (nat_lit 0))), (.int .u8 (.ofNat (nat_lit 0))), (.int .u8 (.ofNat (nat_lit 0))), (.int .u8 (.ofNat (nat_lit 0)))] (.t (.r (.r (.l p1)))) (.t (.r (.r (.l p1)))))))⟩, ⟨(some (.l (.r p1))), none, (.move (.t (.l (.l (.r p1)))))⟩] [(.l (.r p1))] r11x4 := by
  intro call ρ st K
  kernel_rfl
noncomputable def r11x5 : RF := fun call ρ st K => lnS (ρ (.l (.r p1))) (fun v => (fun v0 st => K [v0, (i6 0)] st) v st)
theorem h11x5 : RegOk [⟨(some (.r (.l (.r p1)))), none, (.move (.t (.l (.r p1))))⟩, ⟨(some (.l (.r (.r p1)))), none, (.more (.len (.t (.r (.l (.r p1))))))⟩, ⟨(some (.r (.r (.r p1)))), none, (.move (.c (.sc (.int .i64 (.ofNat (nat_lit 0))))))⟩] [(.l (.r (.r p1))), (.r (.r (.r p1)))] r11x5 := by
  intro call ρ st K
  kernel_rfl
noncomputable def r11x6 : RF := fun call ρ st K => binK .lss (ρ (.r (.r (.r p1)))) (ρ (.l (.r (.r p1)))) (fun v => (fun v0 st => K [v0] st) v st)
theorem h11x6 : RegOk [⟨(some (.l (.l (.l p2)))), none, (.bin .lss (.t (.r (.r (.r p1)))) (.t (.l (.r (.r p1)))))⟩] [(.l (.l (.l p2)))] r11x6 := by
  intro call ρ st K
  kernel_rfl
noncomputable def r11x7 : RF := fun call ρ st K => K [(ρ (.r (.r (.r p1))))] st
theorem h11x7 : RegOk [⟨(some (.r (.l (.l p2)))), none, (.move (.t (.r (.r (.r p1)))))⟩, ⟨(some (.r (.r p1))), none, (.move (.t (.r (.l (.l p2)))))⟩] [(.r (.r p1))] r11x7 := by
  intro call ρ st K
  kernel_rfl
noncomputable def r11x8 : RF := fun call ρ st K => ldN st (nat_lit 21) (ρ (.r p1)) (fun v => (fun v0 st => ixs (nat_lit 21) (ρ (.l (.r p1))) (ρ (.r (.r p1))) (fun v => (fun v1 st => sto st (nat_lit 21) v1 v0 ((fun _ st => K [] st) undefV)) v st)) v st)
theorem h11x8 : RegOk [⟨(some (.l (.r (.l p2)))), none, (.move (.t (.l (.r p1))))⟩, ⟨(some (.r (.r (.l p2)))), none, (.move (.t (.r (.r p1))))⟩, ⟨(some (.l (.l (.r p2)))), none, (.loadN (nat_lit 21) (.t (.r p1)))⟩, ⟨(some (.r (.l (.r p2)))), none, (.idxS (nat_lit 21) (.t (.l (.r (.l p2)))) (.t (.r (.r (.l p2)))))⟩, ⟨none, none, (.more (.store (nat_lit 21) (.t (.r (.l (.r p2)))) (.t (.l (.l (.r p2))))))⟩] [] r11x8 := by
  intro call ρ st K
  kernel_rfl
noncomputable def r11x9 : RF := fun call ρ st K => (fun n0 mk => (fun v st => (fun v0 mk st => fad (nat_lit 0) (ρ (.r p1)) (fun v => (fun v st => (fun v1 mk st => dw2 n0 mk (nat_lit 4) (nat_lit 2) v1 (fun q => ld1 st v1 (fun v => (q) v st)) (fun v2 mk st => dw3 mk (nat_lit 8) (nat_lit 7) st (fun st q => call (nat_lit 18) [v0, v2] st (q)) (fun v3 mk st => dw2 n0 mk (nat_lit 16) (nat_lit 0) (ρ (.r p1)) (fun q => ldN st (nat_lit 21) (ρ (.r p1)) (fun v => (q) v st)) (fun v4 mk st => dw3 mk (nat_lit 32) (nat_lit 31) st (fun st q => call (nat_lit 27) [v3, v4] st (q)) (fun v5 mk st => dw4 n0 mk (nat_lit 64) (nat_lit 63) (ρ (.r p1)) (fun q => sto st (nat_lit 21) (ρ (.r p1)) v5 ((q) undefV)) (fun _ mk st => K [] st)))))) v mk st) v st)) v mk st) (ρ p0) st) st.next mk0
theorem h11x9 : DrwOk [⟨(some (.l (.r (.r p2)))), none, (.move (.t p0)), (nat_lit 0), (nat_lit 1), (nat_lit 0)⟩, ⟨(some (.r (.r (.r p2)))), none, (.fa (nat_lit 0) (.t (.r p1))), (nat_lit 0), (nat_lit 2), (nat_lit 0)⟩, ⟨(some (.l (.l (.l (.l p1))))), none, (.load1 (.t (.r (.r (.r p2))))), (nat_lit 2), (nat_lit 4), (nat_lit 2)⟩, ⟨(some (.r (.l (.l (.l p1))))), none, (.call (nat_lit 18) [(.t (.l (.r (.r p2)))), (.t (.l (.l (.l (.l p1)))))]), (nat_lit 3), (nat_lit 8), (nat_lit 7)⟩, ⟨(some (.l (.r (.l (.l p1))))), none, (.loadN (nat_lit 21) (.t (.r p1))), (nat_lit 2), (nat_lit 16), (nat_lit 0)⟩, ⟨(some (.r (.r (.l (.l p1))))), none, (.call (nat_lit 27) [(.t (.r (.l (.l (.l p1))))), (.t (.l (.r (.l (.l p1)))))]), (nat_lit 3), (nat_lit 32), (nat_lit 31)⟩, ⟨none, none, (.more (.store (nat_lit 21) (.t (.r p1)) (.t (.r (.r (.l (.l p1))))))), (nat_lit 4), (nat_lit 64), (nat_lit 63)⟩] [] r11x9 := by
  intro call ρ st K
  kernel_rfl
noncomputable def r11x10 : RF := fun call ρ st K => binK .add (ρ (.r (.r (.r p1)))) (i6 1) (fun v => (fun v0 st => K [v0] st) v st)
theorem h11x10 : RegOk [⟨(some (.l (.l (.r (.l p1))))), none, (.bin .add (.t (.r (.r (.r p1)))) (.c (.sc (.int .i64 (.ofNat (nat_lit 1))))))⟩, ⟨(some (.r (.r (.r p1)))), none, (.move (.t (.l (.l (.r (.l p1))))))⟩] [(.r (.r (.r p1)))] r11x10 := by
  intro call ρ st K
  kernel_rfl
noncomputable def r11x11 : RF := fun call ρ st K => K [(ρ (.l (.r p1))), (i6 0)] st
theorem h11x11 : RegOk [⟨(some (.r (.l (.r (.l p1))))), none, (.move (.t (.l (.r p1))))⟩, ⟨(some (.r p2)), none, (.move (.t (.r (.l (.r (.l p1))))))⟩, ⟨(some (.l (.l p1))), none, (.move (.c (.sc (.int .i64 (.ofNat (nat_lit 0))))))⟩] [(.r p2), (.l (.l p1))] r11x11 := by
  intro call ρ st K
  kernel_rfl
/- attestor/machine.States -/
noncomputable def cf11 : HF := ⟨(.seq (.reg _ _ _ h11x0)
 (.seq (.seq (.reg _ _ _ h11x1)
 (.seq (.reg _ _ _ h11x2)
 (.cond (.t (.r (.l (.l p1)))) (.seq (.reg _ _ _ h11x3)
 .ret)
 .skip)))
 (.seq (.reg _ _ _ h11x4)
 (.seq (.seq (.reg _ _ _ h11x5)
 (.block (nat_lit 0) (.loop (.seq (.reg _ _ _ h11x6)
 (.seq (.cond (.t (.l (.l (.l p2)))) .skip
 (.exit (nat_lit 0)))
 (.seq (.block (nat_lit 1) (.seq (.reg _ _ _ h11x7)
 (.seq (.reg _ _ _ h11x8)
 (.drw _ _ _ h11x9))))
 (.reg _ _ _ h11x10)))))))
 (.seq (.reg _ _ _ h11x11)
 .ret))))), [(.tmp (.r p2)), (.tmp (.l (.l p1)))], [p0, p1, p2], [(.l (.l p2)), (.r (.l p2)), (.l (.r p2)), (.r (.r p2)), (.l (.l (.l p1))), (.l (.r (.l p1))), (.r (.r (.l p1))), (.l (.l (.r p1))), (.r (.l (.r p1))), (.r (.l (.l p2))), (.l (.r (.l p2))), (.r (.r (.l p2))), (.l (.l (.r p2))), (.r (.l (.r p2))), (.l (.r (.r p2))), (.r (.r (.r p2))), (.l (.l (.l (.l p1)))), (.r (.l (.l (.l p1)))), (.l (.r (.l (.l p1)))), (.r (.r (.l (.l p1)))), (.l (.l (.r (.l p1)))), (.r (.l (.r (.l p1))))]⟩
noncomputable def r26x0 : RF := fun call ρ st K => bxx st (ρ p1) (fun v0 st => K [v0, (i6 0)] st)
theorem h26x0 : RegOk [⟨(some (.r p1)), none, (.more (.box (.t p1)))⟩, ⟨(some (.r p2)), none, (.move (.c (.sc (.int .i64 (.ofNat (nat_lit 0))))))⟩] [(.r p1), (.r p2)] r26x0 := by
  intro call ρ st K
  kernel_rfl
noncomputable def r26x1 : RF := fun call ρ st K => ldN st (nat_lit 21) (ρ (.r p1)) (fun v => (fun v0 st => call (nat_lit 28) [(ρ p0), v0] st (fun v1 st => nott v1 (fun v => (fun v2 st => jn false v2 (fun j => (j) (ρ p2) st) st (fun v3 st => jn false v2 (fun j => binK .lss v3 (i6 0) (fun v => (j) v st)) st (fun v4 st => pck v2 (.sc (.bool true)) v4 (fun v => (fun v5 st => K [v5] st) v st)))) v st))) v st)
theorem h26x1 : RegOk [⟨(some (.r (.l p1))), none, (.move (.t p0))⟩, ⟨(some (.l (.r p1))), none, (.loadN (nat_lit 21) (.t (.r p1)))⟩, ⟨(some (.r (.r p1))), none, (.call (nat_lit 28) [(.t (.r (.l p1))), (.t (.l (.r p1)))])⟩, ⟨(some (.l (.l p2))), none, (.more (.more (.more (.not (.t (.r (.r p1)))))))⟩, ⟨(some (.r (.l p2))), none, (.move (.t (.l (.l p2))))⟩, ⟨(some (.l (.r p2))), (some ((.r (.l p2)), false)), (.move (.t p2))⟩, ⟨(some (.r (.r p2))), (some ((.r (.l p2)), false)), (.bin .lss (.t (.l (.r p2))) (.c (.sc (.int .i64 (.ofNat (nat_lit 0))))))⟩, ⟨(some (.l (.l (.l p1)))), none, (.more (.pick (.t (.r (.l p2))) (.c (.sc (.bool true))) (.t (.r (.r p2)))))⟩, ⟨(some (.l (.l p1))), none, (.move (.t (.l (.l (.l p1)))))⟩] [(.l (.l p1))] r26x1 := by
  intro call ρ st K
  kernel_rfl
noncomputable def r26x2 : RF := fun call ρ st K => K [(i6 1)] st
theorem h26x2 : RegOk [⟨(some (.r p2)), none, (.move (.c (.sc (.int .i64 (.ofNat (nat_lit 1))))))⟩] [(.r p2)] r26x2 := by
  intro call ρ st K
  kernel_rfl
noncomputable def r26x3 : RF := fun call ρ st K => binK .gtr (ρ p2) (i6 65536) (fun v => (fun v0 st => K [v0] st) v st)
theorem h26x3 : RegOk [⟨(some (.l (.r (.l p1)))), none, (.move (.t p2))⟩, ⟨(some (.r (.r (.l p1)))), none, (.bin .gtr (.t (.l (.r (.l p1)))) (.c (.sc (.int .i64 (.ofNat (nat_lit 65536))))))⟩, ⟨(some (.r (.l (.l p1)))), none, (.move (.t (.r (.r (.l p1)))))⟩] [(.r (.l (.l p1)))] r26x3 := by
  intro call ρ st K
  kernel_rfl
noncomputable def r26x4 : RF := fun call ρ st K => K [(i6 3)] st
theorem h26x4 : RegOk [⟨(some (.r p2)), none, (.move (.c (.sc (.int .i64 (.ofNat (nat_lit 3))))))⟩] [(.r p2)] r26x4 := by
  intro call ρ st K
  kernel_rfl
noncomputable def r26x5 : RF := fun call ρ st K => K [(i6 0)] st
theorem h26x5 : RegOk [⟨(some (.r p2)), none, (.move (.c (.sc (.int .i64 (.ofNat (nat_lit 0))))))⟩] [(.r p2)] r26x5 := by
  intro call ρ st K
  kernel_rfl
/- attestor/machine.bound -/
noncomputable def cf26 : HF := ⟨(.seq (.reg _ _ _ h26x0)
 (.seq (.block (nat_lit 0) (.seq (.reg _ _ _ h26x1)
 (.cond (.t (.l (.l p1))) (.seq (.reg _ _ _ h26x2)
 .ret)
 (.seq (.reg _ _ _ h26x3)
 (.cond (.t (.r (.l (.l p1)))) (.seq (.reg _ _ _ h26x4)
 .ret)
 .skip)))))
 (.seq (.reg _ _ _ h26x5)
 .ret))), [(.tmp (.r p2))], [p0, p1, p2], [(.r (.l p1)), (.l (.r p1)), (.r (.r p1)), (.l (.l p2)), (.r (.l p2)), (.l (.r p2)), (.r (.r p2)), (.l (.l (.l p1))), (.l (.r (.l p1))), (.r (.r (.l p1)))]⟩
noncomputable def r12x0 : RF := fun call ρ st K => bxx st (ρ p0) (fun v0 st => alc st [(.int .i64 (.ofNat (nat_lit 0))), (.int .u8 (.ofNat (nat_lit 0))), (.int .u8 (.ofNat (nat_lit 0))), (.int .u8 (.ofNat (nat_lit 0))), (.int .u8 (.ofNat (nat_lit 0))), (.int .u8 (.ofNat (nat_lit 0))), (.int .u8 (.ofNat (nat_lit 0))), (.int .u8 (.ofNat (nat_lit 0))), (.int .u8 (.ofNat (nat_lit 0))), (.int .u8 (.ofNat (nat_lit 0))), (.int .u8 (.ofNat (nat_lit 0))), (.int .u8 (.ofNat (nat_lit 0))), (.int .u8 (.ofNat (nat_lit 0))), (.int .u8 (.ofNat (nat_lit 0))), (.int .u8 (.ofNat (nat_lit 0))), (.int .u8 (.ofNat (nat_lit 0))), (.int .u8 (.ofNat (nat_lit 0))), (.int .u8 (.ofNat (nat_lit 0))), (.int .u8 (.ofNat (nat_lit 0))), (.int .u8 (.ofNat (nat_lit 0))), (.int .u8 (.ofNat (nat_lit 0)))] (fun v1 st => K [v0, v1] st))
theorem h12x0 : RegOk [⟨(some p1), none, (.more (.box (.t p0)))⟩, ⟨(some p2), none, (.more (.alloc [(.int .i64 (.ofNat (nat_lit 0))), (.int .u8 (.ofNat (nat_lit 0))), (.int .u8 (.ofNat (nat_lit 0))), (.int .u8 (.ofNat (nat_lit 0))), (.int .u8 (.ofNat (nat_lit 0))), (.int .u8 (.ofNat (nat_lit 0))), (.int .u8 (.ofNat (nat_lit 0))), (.int .u8 (.ofNat (nat_lit 0))), (.int .u8 (.ofNat (nat_lit 0))), (.int .u8 (.ofNat (nat_lit 0))), (.int .u8 (.ofNat (nat_lit 0))), (.int .u8 (.ofNat (nat_lit 0))), (.int .u8 (.ofNat (nat_lit 0))), (.int .u8 (.ofNat (nat_lit 0))), (.int .u8 (.ofNat (nat_lit 0))), (.int .u8 (.ofNat (nat_lit 0))), (.int .u8 (.ofNat (nat_lit 0))), (.int .u8 (.ofNat (nat_lit 0))), (.int .u8 (.ofNat (nat_lit 0))), (.int .u8 (.ofNat (nat_lit 0))), (.int .u8 (.ofNat (nat_lit 0)))]))⟩] [p1, p2] r12x0 := by
  intro call ρ st K
  kernel_rfl
noncomputable def r12x1 : RF := fun call ρ st K => ldN st (nat_lit 4) (ρ p1) (fun v => (fun v0 st => h_op3_build [(.int .i64 (.ofNat (nat_lit 0))), (.int .u8 (.ofNat (nat_lit 0))), (.int .u8 (.ofNat (nat_lit 0))), (.int .u8 (.ofNat (nat_lit 0))), (.int .u8 (.ofNat (nat_lit 0))), (.int .u8 (.ofNat (nat_lit 0))), (.int .u8 (.ofNat (nat_lit 0))), (.int .u8 (.ofNat (nat_lit 0))), (.int .u8 (.ofNat (nat_lit 0))), (.int .u8 (.ofNat (nat_lit 0))), (.int .u8 (.ofNat (nat_lit 0))), (.int .u8 (.ofNat (nat_lit 0))), (.int .u8 (.ofNat (nat_lit 0))), (.int .u8 (.ofNat (nat_lit 0))), (.int .u8 (.ofNat (nat_lit 0))), (.int .u8 (.ofNat (nat_lit 0))), (.int .u8 (.ofNat (nat_lit 0))), (.int .u8 (.ofNat (nat_lit 0))), (.int .u8 (.ofNat (nat_lit 0))), (.int .u8 (.ofNat (nat_lit 0))), (.int .u8 (.ofNat (nat_lit 0)))] [((nat_lit 1), (nat_lit 4), (.c v0))] call ρ st (fun v1 st => sto st (nat_lit 21) (ρ p2) v1 ((fun _ st => K [] st) undefV))) v st)
theorem h12x1 : RegOk [⟨(some (.l p1)), none, (.loadN (nat_lit 4) (.t p1))⟩, ⟨(some (.r p1)), none, (.more (.more (.build [(.int .i64 (.ofNat (nat_lit 0))), (.int .u8 (.ofNat (nat_lit 0))), (.int .u8 (.ofNat (nat_lit 0))), (.int .u8 (.ofNat (nat_lit 0))), (.int .u8 (.ofNat (nat_lit 0))), (.int .u8 (.ofNat (nat_lit 0))), (.int .u8 (.ofNat (nat_lit 0))), (.int .u8 (.ofNat (nat_lit 0))), (.int .u8 (.ofNat (nat_lit 0))), (.int .u8 (.ofNat (nat_lit 0))), (.int .u8 (.ofNat (nat_lit 0))), (.int .u8 (.ofNat (nat_lit 0))), (.int .u8 (.ofNat (nat_lit 0))), (.int .u8 (.ofNat (nat_lit 0))), (.int .u8 (.ofNat (nat_lit 0))), (.int .u8 (.ofNat (nat_lit 0))), (.int .u8 (.ofNat (nat_lit 0))), (.int .u8 (.ofNat (nat_lit 0))), (.int .u8 (.ofNat (nat_lit 0))), (.int .u8 (.ofNat (nat_lit 0))), (.int .u8 (.ofNat (nat_lit 0)))] [((nat_lit 1), (nat_lit 4), (.t (.l p1)))])))⟩, ⟨none, none, (.more (.store (nat_lit 21) (.t p2) (.t (.r p1))))⟩] [] r12x1 := by
  intro call ρ st K
  kernel_rfl
/- attestor/machine.Start -/
noncomputable def cf12 : HF := ⟨(.seq (.reg _ _ _ h12x0)
 (.seq (.reg _ _ _ h12x1)
 .ret)), [(.cellN (nat_lit 21) p2)], [p0], [(.l p1), (.r p1)]⟩
noncomputable def r5x0 : RF := fun call ρ st K => K [(.sc .nils)] st
theorem h5x0 : RegOk [⟨(some p0), none, (.move (.c (.sc .nils)))⟩] [p0] r5x0 := by
  intro call ρ st K
  kernel_rfl
noncomputable def r5x1 : RF := fun call ρ st K => h_op3_build [(.int .u8 (.ofNat (nat_lit 0))), (.int .u8 (.ofNat (nat_lit 0))), (.int .u8 (.ofNat (nat_lit 0))), (.int .u8 (.ofNat (nat_lit 0)))] [((nat_lit 0), (nat_lit 1), (.c (u8 1))), ((nat_lit 3), (nat_lit 1), (.c (u8 5)))] call ρ st (fun v0 st => h_op3_build [(.int .u8 (.ofNat (nat_lit 0))), (.int .u8 (.ofNat (nat_lit 0))), (.int .u8 (.ofNat (nat_lit 0))), (.int .u8 (.ofNat (nat_lit 0)))] [((nat_lit 0), (nat_lit 1), (.c (u8 3))), ((nat_lit 2), (nat_lit 1), (.c (u8 1)))] call ρ st (fun v1 st => h_op3_buildS (nat_lit 2) (nat_lit 4) [(.int .u8 (.ofNat (nat_lit 0))), (.int .u8 (.ofNat (nat_lit 0))), (.int .u8 (.ofNat (nat_lit 0))), (.int .u8 (.ofNat (nat_lit 0))), (.int .u8 (.ofNat (nat_lit 0))), (.int .u8 (.ofNat (nat_lit 0))), (.int .u8 (.ofNat (nat_lit 0))), (.int .u8 (.ofNat (nat_lit 0)))] [((nat_lit 0), (nat_lit 4), (.c v0)), ((nat_lit 4), (nat_lit 4), (.c v1))] call ρ st (fun v2 st => K [v2] st)))
theorem h5x1 : RegOk [⟨(some p1), none, (.more (.more (.build [(.int .u8 (.ofNat (nat_lit 0))), (.int .u8 (.ofNat (nat_lit 0))), (.int .u8 (.ofNat (nat_lit 0))), (.int .u8 (.ofNat (nat_lit 0)))] [((nat_lit 0), (nat_lit 1), (.c (.sc (.int .u8 (.ofNat (nat_lit 1)))))), ((nat_lit 3), (nat_lit 1), (.c (.sc (.int .u8 (.ofNat (nat_lit 5))))))])))⟩, ⟨(some p2), none, (.more (.more (.build [(.int .u8 (.ofNat (nat_lit 0))), (.int .u8 (.ofNat (nat_lit 0))), (.int .u8 (.ofNat (nat_lit 0))), (.int .u8 (.ofNat (nat_lit 0)))] [((nat_lit 0), (nat_lit 1), (.c (.sc (.int .u8 (.ofNat (nat_lit 3)))))), ((nat_lit 2), (nat_lit 1), (.c (.sc (.int .u8 (.ofNat (nat_lit 1))))))])))⟩, ⟨(some (.l p1)), none, (.more (.more (.buildS (nat_lit 2) (nat_lit 4) [(.int .u8 (.ofNat (nat_lit 0))), (.int .u8 (.ofNat (nat_lit 0))), (.int .u8 (.ofNat (nat_lit 0))), (.int .u8 (.ofNat (nat_lit 0))), (.int .u8 (.ofNat (nat_lit 0))), (.int .u8 (.ofNat (nat_lit 0))), (.int .u8 (.ofNat (nat_lit 0))), (.int .u8 (.ofNat (nat_lit 0)))] [((nat_lit 0), (nat_lit 4), (.t p1)), ((nat_lit 4), (nat_lit 4), (.t p2))])))⟩, ⟨(some p0), none, (.move (.t (.l p1)))⟩] [p0] r5x1 := by
  intro call ρ st K
  kernel_rfl
/- attestor/attestorlaw29.short -/
noncomputable def cf5 : HF := ⟨(.seq (.reg _ _ _ h5x0)
 (.seq (.reg _ _ _ h5x1)
 .ret)), [(.tmp p0)], [], [p1, p2, (.l p1)]⟩
end Go.Proofs.YtffaehgicojjmaaDoor.Ev
