/- Compiled functions of the translated program, and that each is what the compiler makes of it; no conditions. -/
import Derived.Test.YtffaehgicojjmaaDoorEvC
import Derived.KernelRfl
namespace Go.Proofs.YtffaehgicojjmaaDoor.Ev
set_option maxRecDepth 100000
set_option linter.unusedVariables false
noncomputable def r8x0 : RF := fun call ρ st K => bxx st (ρ p0) (fun v0 st => K [v0, (.sc .nils), (i6 0)] st)
theorem h8x0 : RegOk [⟨(some p1), none, (.more (.box (.t p0)))⟩, ⟨(some p2), none, (.move (.c (.sc .nils)))⟩, ⟨(some (.l p1)), none, (.move (.c (.sc (.int .i64 (.ofNat (nat_lit 0))))))⟩] [p1, p2, (.l p1)] r8x0 := by
  intro call ρ st K
  kernel_rfl
noncomputable def r8x1 : RF := fun call ρ st K => fad (nat_lit 1) (ρ p1) (fun v => (fun v0 st => ld1 st v0 (fun v => (fun v1 st => lnS v1 (fun v => (fun v2 st => binK .lss v2 (i6 50) (fun v => (fun v3 st => jn false v3 (fun j => fad (nat_lit 1) (ρ p1) (fun v => (j) v st)) st (fun v4 st => jn false v3 (fun j => ld1 st v4 (fun v => (j) v st)) st (fun v5 st => jn false v3 (fun j => h_op4_makeFunc (nat_lit 24) [(.c (ρ p1))] call ρ st (j)) st (fun v6 st => jn false v3 (fun j => call (nat_lit 23) [v5, v6] st (j)) st (fun v7 st => pck v3 (.sc (.bool true)) v7 (fun v => (fun v8 st => K [v8] st) v st)))))) v st)) v st)) v st)) v st)
theorem h8x1 : RegOk [⟨(some (.l (.r p2))), none, (.fa (nat_lit 1) (.t p1))⟩, ⟨(some (.r (.r p2))), none, (.load1 (.t (.l (.r p2))))⟩, ⟨(some (.l (.l (.l p1)))), none, (.more (.len (.t (.r (.r p2)))))⟩, ⟨(some (.r (.l (.l p1)))), none, (.bin .lss (.t (.l (.l (.l p1)))) (.c (.sc (.int .i64 (.ofNat (nat_lit 50))))))⟩, ⟨(some (.l (.r (.l p1)))), none, (.move (.t (.r (.l (.l p1)))))⟩, ⟨(some (.r (.r (.l p1)))), (some ((.l (.r (.l p1))), false)), (.fa (nat_lit 1) (.t p1))⟩, ⟨(some (.l (.l (.r p1)))), (some ((.l (.r (.l p1))), false)), (.load1 (.t (.r (.r (.l p1)))))⟩, ⟨(some (.r (.l (.r p1)))), (some ((.l (.r (.l p1))), false)), (.more (.more (.more (.makeFunc (nat_lit 24) [(.t p1)]))))⟩, ⟨(some (.l (.r (.r p1)))), (some ((.l (.r (.l p1))), false)), (.call (nat_lit 23) [(.t (.l (.l (.r p1)))), (.t (.r (.l (.r p1))))])⟩, ⟨(some (.r (.r (.r p1)))), none, (.more (.pick (.t (.l (.r (.l p1)))) (.c (.sc (.bool true))) (.t (.l (.r (.r p1))))))⟩] [(.r (.r (.r p1)))] r8x1 := by
  intro call ρ st K
  kernel_rfl
noncomputable def r8x2 : RF := fun call ρ st K => K [(.sc .nils), (i6 1)] st
theorem h8x2 : RegOk [⟨(some p2), none, (.move (.c (.sc .nils)))⟩, ⟨(some (.l p1)), none, (.move (.c (.sc (.int .i64 (.ofNat (nat_lit 1))))))⟩] [p2, (.l p1)] r8x2 := by
  intro call ρ st K
  kernel_rfl
noncomputable def r8x3 : RF := fun call ρ st K => fad (nat_lit 1) (ρ p1) (fun v => (fun v0 st => ld1 st v0 (fun v => (fun v1 st => ixs (nat_lit 1) v1 (i6 0) (fun v => (fun v2 st => ld1 st v2 (fun v => (fun v3 st => lnS v3 (fun v => (fun v4 st => h_op3_makeS (nat_lit 21) (nat_lit 32) [(.int .i64 (.ofNat (nat_lit 0))), (.int .u8 (.ofNat (nat_lit 0))), (.int .u8 (.ofNat (nat_lit 0))), (.int .u8 (.ofNat (nat_lit 0))), (.int .u8 (.ofNat (nat_lit 0))), (.int .u8 (.ofNat (nat_lit 0))), (.int .u8 (.ofNat (nat_lit 0))), (.int .u8 (.ofNat (nat_lit 0))), (.int .u8 (.ofNat (nat_lit 0))), (.int .u8 (.ofNat (nat_lit 0))), (.int .u8 (.ofNat (nat_lit 0))), (.int .u8 (.ofNat (nat_lit 0))), (.int .u8 (.ofNat (nat_lit 0))), (.int .u8 (.ofNat (nat_lit 0))), (.int .u8 (.ofNat (nat_lit 0))), (.int .u8 (.ofNat (nat_lit 0))), (.int .u8 (.ofNat (nat_lit 0))), (.int .u8 (.ofNat (nat_lit 0))), (.int .u8 (.ofNat (nat_lit 0))), (.int .u8 (.ofNat (nat_lit 0))), (.int .u8 (.ofNat (nat_lit 0)))] (.c v4) (.c v4) call ρ st (fun v5 st => K [v5] st)) v st)) v st)) v st)) v st)) v st)
theorem h8x3 : RegOk [⟨(some (.l (.l (.l p2)))), none, (.fa (nat_lit 1) (.t p1))⟩, ⟨(some (.r (.l (.l p2)))), none, (.load1 (.t (.l (.l (.l p2)))))⟩, ⟨(some (.l (.r (.l p2)))), none, (.idxS (nat_lit 1) (.t (.r (.l (.l p2)))) (.c (.sc (.int .i64 (.ofNat (nat_lit 0))))))⟩, ⟨(some (.r (.r (.l p2)))), none, (.load1 (.t (.l (.r (.l p2)))))⟩, ⟨(some (.l (.l (.r p2)))), none, (.more (.len (.t (.r (.r (.l p2))))))⟩, ⟨(some (.r (.l (.r p2)))), none, (.more (.more (.makeS (nat_lit 21) (nat_lit 32) [(.int .i64 (.ofNat (nat_lit 0))), (.int .u8 (.ofNat (nat_lit 0))), (.int .u8 (.ofNat (nat_lit 0))), (.int .u8 (.ofNat (nat_lit 0))), (.int .u8 (.ofNat (nat_lit 0))), (.int .u8 (.ofNat (nat_lit 0))), (.int .u8 (.ofNat (nat_lit 0))), (.int .u8 (.ofNat (nat_lit 0))), (.int .u8 (.ofNat (nat_lit 0))), (.int .u8 (.ofNat (nat_lit 0))), (.int .u8 (.ofNat (nat_lit 0))), (.int .u8 (.ofNat (nat_lit 0))), (.int .u8 (.ofNat (nat_lit 0))), (.int .u8 (.ofNat (nat_lit 0))), (.int .u8 (.ofNat (nat_lit 0))), (.int .u8 (.ofNat (nat_lit 0))), (.int .u8 (.ofNat (nat_lit 0))), (.int .u8 (.ofNat (nat_lit 0))), (.int .u8 (.ofNat (nat_lit 0))), (.int .u8 (.ofNat (nat_lit 0))), (.int .u8 (.ofNat (nat_lit 0)))] (.t (.l (.l (.r p2)))) (.t (.l (.l (.r p2)))))))⟩, ⟨(some (.r p1)), none, (.move (.t (.r (.l (.r p2)))))⟩] [(.r p1)] r8x3 := by
  intro call ρ st K
  kernel_rfl
noncomputable def r8x4 : RF := fun call ρ st K => alc st [(.int .u8 (.ofNat (nat_lit 0))), (.int .u8 (.ofNat (nat_lit 0))), (.int .u8 (.ofNat (nat_lit 0))), (.int .u8 (.ofNat (nat_lit 0))), (.int .u8 (.ofNat (nat_lit 0))), (.int .u8 (.ofNat (nat_lit 0))), (.int .u8 (.ofNat (nat_lit 0))), (.int .u8 (.ofNat (nat_lit 0))), (.int .u8 (.ofNat (nat_lit 0))), (.int .u8 (.ofNat (nat_lit 0))), (.int .u8 (.ofNat (nat_lit 0))), (.int .u8 (.ofNat (nat_lit 0))), (.int .u8 (.ofNat (nat_lit 0))), (.int .u8 (.ofNat (nat_lit 0))), (.int .u8 (.ofNat (nat_lit 0))), (.int .u8 (.ofNat (nat_lit 0)))] (fun v0 st => K [v0] st)
theorem h8x4 : RegOk [⟨(some (.l p2)), none, (.more (.alloc [(.int .u8 (.ofNat (nat_lit 0))), (.int .u8 (.ofNat (nat_lit 0))), (.int .u8 (.ofNat (nat_lit 0))), (.int .u8 (.ofNat (nat_lit 0))), (.int .u8 (.ofNat (nat_lit 0))), (.int .u8 (.ofNat (nat_lit 0))), (.int .u8 (.ofNat (nat_lit 0))), (.int .u8 (.ofNat (nat_lit 0))), (.int .u8 (.ofNat (nat_lit 0))), (.int .u8 (.ofNat (nat_lit 0))), (.int .u8 (.ofNat (nat_lit 0))), (.int .u8 (.ofNat (nat_lit 0))), (.int .u8 (.ofNat (nat_lit 0))), (.int .u8 (.ofNat (nat_lit 0))), (.int .u8 (.ofNat (nat_lit 0))), (.int .u8 (.ofNat (nat_lit 0)))]))⟩] [(.l p2)] r8x4 := by
  intro call ρ st K
  kernel_rfl
noncomputable def r8x5 : RF := fun call ρ st K => lnS (ρ (.r p1)) (fun v => (fun v0 st => K [v0, (i6 0)] st) v st)
theorem h8x5 : RegOk [⟨(some (.l (.r (.r p2)))), none, (.move (.t (.r p1)))⟩, ⟨(some (.r (.r (.r p2)))), none, (.more (.len (.t (.l (.r (.r p2))))))⟩, ⟨(some (.l (.l (.l (.l p1))))), none, (.move (.c (.sc (.int .i64 (.ofNat (nat_lit 0))))))⟩] [(.r (.r (.r p2))), (.l (.l (.l (.l p1))))] r8x5 := by
  intro call ρ st K
  kernel_rfl
noncomputable def r8x6 : RF := fun call ρ st K => binK .lss (ρ (.l (.l (.l (.l p1))))) (ρ (.r (.r (.r p2)))) (fun v => (fun v0 st => K [v0] st) v st)
theorem h8x6 : RegOk [⟨(some (.r (.l (.l (.l p1))))), none, (.bin .lss (.t (.l (.l (.l (.l p1))))) (.t (.r (.r (.r p2)))))⟩] [(.r (.l (.l (.l p1))))] r8x6 := by
  intro call ρ st K
  kernel_rfl
noncomputable def r8x7 : RF := fun call ρ st K => (fun v0 => K [v0] st) (ρ (.l (.l (.l (.l p1)))))
theorem h8x7 : RegOk [⟨(some (.l (.r (.l (.l p1))))), none, (.move (.t (.l (.l (.l (.l p1))))))⟩, ⟨(some (.r p2)), none, (.move (.t (.l (.r (.l (.l p1))))))⟩] [(.r p2)] r8x7 := by
  intro call ρ st K
  kernel_rfl
noncomputable def r8x8 : RF := fun call ρ st K => (fun n0 mk => fad (nat_lit 1) (ρ p1) (fun v => (fun v st => (fun v0 mk st => dw2 n0 mk (nat_lit 2) (nat_lit 1) v0 (fun q => ld1 st v0 (fun v => (q) v st)) (fun v1 mk st => ixs (nat_lit 1) v1 (i6 0) (fun v => (fun v st => (fun v2 mk st => dw2 n0 mk (nat_lit 8) (nat_lit 7) v2 (fun q => ld1 st v2 (fun v => (q) v st)) (fun v3 mk st => (fun v st => (fun v4 mk st => ixs (nat_lit 1) v3 v4 (fun v => (fun v st => (fun v5 mk st => dw2 n0 mk (nat_lit 64) (nat_lit 63) v5 (fun q => ld1 st v5 (fun v => (q) v st)) (fun v6 mk st => h_op4_minmax false [(.c v6), (.c (u6 33))] call ρ st (fun v st => (fun v7 mk st => cnv .i64 v7 (fun v => (fun v st => (fun v8 mk st => dw2 n0 mk (nat_lit 512) (nat_lit 0) (ρ (.l p2)) (fun q => ldN st (nat_lit 16) (ρ (.l p2)) (fun v => (q) v st)) (fun v9 mk st => h_op3_build [(.int .i64 (.ofNat (nat_lit 0))), (.int .u8 (.ofNat (nat_lit 0))), (.int .u8 (.ofNat (nat_lit 0))), (.int .u8 (.ofNat (nat_lit 0))), (.int .u8 (.ofNat (nat_lit 0))), (.int .u8 (.ofNat (nat_lit 0))), (.int .u8 (.ofNat (nat_lit 0))), (.int .u8 (.ofNat (nat_lit 0))), (.int .u8 (.ofNat (nat_lit 0))), (.int .u8 (.ofNat (nat_lit 0))), (.int .u8 (.ofNat (nat_lit 0))), (.int .u8 (.ofNat (nat_lit 0))), (.int .u8 (.ofNat (nat_lit 0))), (.int .u8 (.ofNat (nat_lit 0))), (.int .u8 (.ofNat (nat_lit 0))), (.int .u8 (.ofNat (nat_lit 0))), (.int .u8 (.ofNat (nat_lit 0))), (.int .u8 (.ofNat (nat_lit 0))), (.int .u8 (.ofNat (nat_lit 0))), (.int .u8 (.ofNat (nat_lit 0))), (.int .u8 (.ofNat (nat_lit 0)))] [((nat_lit 0), (nat_lit 1), (.c v8)), ((nat_lit 5), (nat_lit 16), (.c v9))] call ρ st (fun v st => (fun v10 mk st => dw1 mk (nat_lit 2048) (fun q => alc st [(.int .i64 (.ofNat (nat_lit 0))), (.int .u8 (.ofNat (nat_lit 0))), (.int .u8 (.ofNat (nat_lit 0))), (.int .u8 (.ofNat (nat_lit 0))), (.int .u8 (.ofNat (nat_lit 0))), (.int .u8 (.ofNat (nat_lit 0))), (.int .u8 (.ofNat (nat_lit 0))), (.int .u8 (.ofNat (nat_lit 0))), (.int .u8 (.ofNat (nat_lit 0))), (.int .u8 (.ofNat (nat_lit 0))), (.int .u8 (.ofNat (nat_lit 0))), (.int .u8 (.ofNat (nat_lit 0))), (.int .u8 (.ofNat (nat_lit 0))), (.int .u8 (.ofNat (nat_lit 0))), (.int .u8 (.ofNat (nat_lit 0))), (.int .u8 (.ofNat (nat_lit 0))), (.int .u8 (.ofNat (nat_lit 0))), (.int .u8 (.ofNat (nat_lit 0))), (.int .u8 (.ofNat (nat_lit 0))), (.int .u8 (.ofNat (nat_lit 0))), (.int .u8 (.ofNat (nat_lit 0)))] (q)) (fun v11 mk st => dw4 n0 mk (nat_lit 4096) (nat_lit 4095) v11 (fun q => sto st (nat_lit 21) v11 v10 ((q) undefV)) (fun _ mk st => K [v11] st))) v mk st))) v mk st) v st)) v mk st))) v mk st) v st)) v mk st) (ρ (.r p2)) st)) v mk st) v st))) v mk st) v st)) st.next mk0
theorem h8x8 : DrwOk [⟨(some (.r (.r (.l (.l p1))))), none, (.fa (nat_lit 1) (.t p1)), (nat_lit 0), (nat_lit 1), (nat_lit 0)⟩, ⟨(some (.l (.l (.r (.l p1))))), none, (.load1 (.t (.r (.r (.l (.l p1)))))), (nat_lit 2), (nat_lit 2), (nat_lit 1)⟩, ⟨(some (.r (.l (.r (.l p1))))), none, (.idxS (nat_lit 1) (.t (.l (.l (.r (.l p1))))) (.c (.sc (.int .i64 (.ofNat (nat_lit 0)))))), (nat_lit 0), (nat_lit 4), (nat_lit 3)⟩, ⟨(some (.l (.r (.r (.l p1))))), none, (.load1 (.t (.r (.l (.r (.l p1)))))), (nat_lit 2), (nat_lit 8), (nat_lit 7)⟩, ⟨(some (.r (.r (.r (.l p1))))), none, (.move (.t (.r p2))), (nat_lit 0), (nat_lit 16), (nat_lit 0)⟩, ⟨(some (.l (.l (.l (.r p1))))), none, (.idxS (nat_lit 1) (.t (.l (.r (.r (.l p1))))) (.t (.r (.r (.r (.l p1)))))), (nat_lit 0), (nat_lit 32), (nat_lit 31)⟩, ⟨(some (.r (.l (.l (.r p1))))), none, (.load1 (.t (.l (.l (.l (.r p1)))))), (nat_lit 2), (nat_lit 64), (nat_lit 63)⟩, ⟨(some (.l (.r (.l (.r p1))))), none, (.more (.more (.more (.minmax false [(.t (.r (.l (.l (.r p1))))), (.c (.sc (.int .u64 (.ofNat (nat_lit 33)))))])))), (nat_lit 0), (nat_lit 128), (nat_lit 127)⟩, ⟨(some (.r (.r (.l (.r p1))))), none, (.more (.conv .i64 (.t (.l (.r (.l (.r p1))))))), (nat_lit 0), (nat_lit 256), (nat_lit 255)⟩, ⟨(some (.l (.l (.r (.r p1))))), none, (.loadN (nat_lit 16) (.t (.l p2))), (nat_lit 2), (nat_lit 512), (nat_lit 0)⟩, ⟨(some (.r (.l (.r (.r p1))))), none, (.more (.more (.build [(.int .i64 (.ofNat (nat_lit 0))), (.int .u8 (.ofNat (nat_lit 0))), (.int .u8 (.ofNat (nat_lit 0))), (.int .u8 (.ofNat (nat_lit 0))), (.int .u8 (.ofNat (nat_lit 0))), (.int .u8 (.ofNat (nat_lit 0))), (.int .u8 (.ofNat (nat_lit 0))), (.int .u8 (.ofNat (nat_lit 0))), (.int .u8 (.ofNat (nat_lit 0))), (.int .u8 (.ofNat (nat_lit 0))), (.int .u8 (.ofNat (nat_lit 0))), (.int .u8 (.ofNat (nat_lit 0))), (.int .u8 (.ofNat (nat_lit 0))), (.int .u8 (.ofNat (nat_lit 0))), (.int .u8 (.ofNat (nat_lit 0))), (.int .u8 (.ofNat (nat_lit 0))), (.int .u8 (.ofNat (nat_lit 0))), (.int .u8 (.ofNat (nat_lit 0))), (.int .u8 (.ofNat (nat_lit 0))), (.int .u8 (.ofNat (nat_lit 0))), (.int .u8 (.ofNat (nat_lit 0)))] [((nat_lit 0), (nat_lit 1), (.t (.r (.r (.l (.r p1)))))), ((nat_lit 5), (nat_lit 16), (.t (.l (.l (.r (.r p1))))))]))), (nat_lit 0), (nat_lit 1024), (nat_lit 1023)⟩, ⟨(some (.l (.l p1))), none, (.more (.alloc [(.int .i64 (.ofNat (nat_lit 0))), (.int .u8 (.ofNat (nat_lit 0))), (.int .u8 (.ofNat (nat_lit 0))), (.int .u8 (.ofNat (nat_lit 0))), (.int .u8 (.ofNat (nat_lit 0))), (.int .u8 (.ofNat (nat_lit 0))), (.int .u8 (.ofNat (nat_lit 0))), (.int .u8 (.ofNat (nat_lit 0))), (.int .u8 (.ofNat (nat_lit 0))), (.int .u8 (.ofNat (nat_lit 0))), (.int .u8 (.ofNat (nat_lit 0))), (.int .u8 (.ofNat (nat_lit 0))), (.int .u8 (.ofNat (nat_lit 0))), (.int .u8 (.ofNat (nat_lit 0))), (.int .u8 (.ofNat (nat_lit 0))), (.int .u8 (.ofNat (nat_lit 0))), (.int .u8 (.ofNat (nat_lit 0))), (.int .u8 (.ofNat (nat_lit 0))), (.int .u8 (.ofNat (nat_lit 0))), (.int .u8 (.ofNat (nat_lit 0))), (.int .u8 (.ofNat (nat_lit 0)))])), (nat_lit 1), (nat_lit 2048), (nat_lit 0)⟩, ⟨none, none, (.more (.store (nat_lit 21) (.t (.l (.l p1))) (.t (.r (.l (.r (.r p1))))))), (nat_lit 4), (nat_lit 4096), (nat_lit 4095)⟩] [(.l (.l p1))] r8x8 := by
  intro call ρ st K
  kernel_rfl
noncomputable def r8x9 : RF := fun call ρ st K => fad (nat_lit 0) (ρ (.l (.l p1))) (fun v => (fun v0 st => ld1 st v0 (fun v => (fun v1 st => binK .gtr v1 (i6 32) (fun v => (fun v2 st => K [v2] st) v st)) v st)) v st)
theorem h8x9 : RegOk [⟨(some (.l (.r (.r (.r p1))))), none, (.fa (nat_lit 0) (.t (.l (.l p1))))⟩, ⟨(some (.r (.r (.r (.r p1))))), none, (.load1 (.t (.l (.r (.r (.r p1))))))⟩, ⟨(some (.l (.l (.l (.l p2))))), none, (.bin .gtr (.t (.r (.r (.r (.r p1))))) (.c (.sc (.int .i64 (.ofNat (nat_lit 32))))))⟩, ⟨(some (.r (.l p1))), none, (.move (.t (.l (.l (.l (.l p2))))))⟩] [(.r (.l p1))] r8x9 := by
  intro call ρ st K
  kernel_rfl
noncomputable def r8x10 : RF := fun call ρ st K => K [(i6 0)] st
theorem h8x10 : RegOk [⟨(some (.r (.l (.l (.l p2))))), none, (.move (.c (.sc (.int .i64 (.ofNat (nat_lit 0))))))⟩] [(.r (.l (.l (.l p2))))] r8x10 := by
  intro call ρ st K
  kernel_rfl
noncomputable def r8x11 : RF := fun call ρ st K => binK .lss (ρ (.r (.l (.l (.l p2))))) (i6 4) (fun v => (fun v0 st => K [v0] st) v st)
theorem h8x11 : RegOk [⟨(some (.l (.r (.l (.l p2))))), none, (.bin .lss (.t (.r (.l (.l (.l p2))))) (.c (.sc (.int .i64 (.ofNat (nat_lit 4))))))⟩] [(.l (.r (.l (.l p2))))] r8x11 := by
  intro call ρ st K
  kernel_rfl
noncomputable def r8x12 : RF := fun call ρ st K => (fun v0 => K [v0] st) (ρ (.r (.l (.l (.l p2)))))
theorem h8x12 : RegOk [⟨(some (.r (.r (.l (.l p2))))), none, (.move (.t (.r (.l (.l (.l p2))))))⟩, ⟨(some (.l (.r p1))), none, (.move (.t (.r (.r (.l (.l p2))))))⟩] [(.l (.r p1))] r8x12 := by
  intro call ρ st K
  kernel_rfl
noncomputable def r8x13 : RF := fun call ρ st K => fad (nat_lit 1) (ρ p1) (fun v => (fun v0 st => ld1 st v0 (fun v => (fun v1 st => binK .add (i6 1) (ρ (.l (.r p1))) (fun v => (fun v2 st => ixs (nat_lit 1) v1 v2 (fun v => (fun v3 st => ld1 st v3 (fun v => (fun v4 st => ixs (nat_lit 1) v4 (ρ (.r p2)) (fun v => (fun v5 st => ld1 st v5 (fun v => (fun v6 st => K [v6] st) v st)) v st)) v st)) v st)) v st)) v st)) v st)
theorem h8x13 : RegOk [⟨(some (.l (.l (.r (.l p2))))), none, (.fa (nat_lit 1) (.t p1))⟩, ⟨(some (.r (.l (.r (.l p2))))), none, (.load1 (.t (.l (.l (.r (.l p2))))))⟩, ⟨(some (.l (.r (.r (.l p2))))), none, (.move (.t (.l (.r p1))))⟩, ⟨(some (.r (.r (.r (.l p2))))), none, (.bin .add (.c (.sc (.int .i64 (.ofNat (nat_lit 1))))) (.t (.l (.r (.r (.l p2))))))⟩, ⟨(some (.l (.l (.l (.r p2))))), none, (.idxS (nat_lit 1) (.t (.r (.l (.r (.l p2))))) (.t (.r (.r (.r (.l p2))))))⟩, ⟨(some (.r (.l (.l (.r p2))))), none, (.load1 (.t (.l (.l (.l (.r p2))))))⟩, ⟨(some (.l (.r (.l (.r p2))))), none, (.move (.t (.r p2)))⟩, ⟨(some (.r (.r (.l (.r p2))))), none, (.idxS (nat_lit 1) (.t (.r (.l (.l (.r p2))))) (.t (.l (.r (.l (.r p2))))))⟩, ⟨(some (.l (.l (.r (.r p2))))), none, (.load1 (.t (.r (.r (.l (.r p2))))))⟩, ⟨(some (.r (.r p1))), none, (.move (.t (.l (.l (.r (.r p2))))))⟩] [(.r (.r p1))] r8x13 := by
  intro call ρ st K
  kernel_rfl
noncomputable def r8x14 : RF := fun call ρ st K => jn false (ρ (.r (.l p1))) (fun j => (j) (ρ (.r (.r p1))) st) st (fun v0 st => jn false (ρ (.r (.l p1))) (fun j => binK .gtr v0 (u6 255) (fun v => (j) v st)) st (fun v1 st => pck (ρ (.r (.l p1))) (.sc (.bool true)) v1 (fun v => (fun v2 st => K [v2] st) v st)))
theorem h8x14 : RegOk [⟨(some (.r (.l (.r (.r p2))))), none, (.move (.t (.r (.l p1))))⟩, ⟨(some (.l (.r (.r (.r p2))))), none, (.move (.t (.r (.l (.r (.r p2))))))⟩, ⟨(some (.r (.r (.r (.r p2))))), (some ((.l (.r (.r (.r p2)))), false)), (.move (.t (.r (.r p1))))⟩, ⟨(some (.l (.l (.l (.l (.l p1)))))), (some ((.l (.r (.r (.r p2)))), false)), (.bin .gtr (.t (.r (.r (.r (.r p2))))) (.c (.sc (.int .u64 (.ofNat (nat_lit 255))))))⟩, ⟨(some (.r (.l (.l (.l (.l p1)))))), none, (.more (.pick (.t (.l (.r (.r (.r p2))))) (.c (.sc (.bool true))) (.t (.l (.l (.l (.l (.l p1))))))))⟩, ⟨(some (.r (.l p1))), none, (.move (.t (.r (.l (.l (.l (.l p1)))))))⟩] [(.r (.l p1))] r8x14 := by
  intro call ρ st K
  kernel_rfl
noncomputable def r8x15 : RF := fun call ρ st K => cnv .u8 (ρ (.r (.r p1))) (fun v => (fun v0 st => fad (nat_lit 1) (ρ (.l (.l p1))) (fun v => (fun v1 st => ixA (nat_lit 4) (nat_lit 1) v1 (ρ (.l (.r p1))) (fun v => (fun v2 st => sto st (nat_lit 1) v2 v0 ((fun _ st => K [] st) undefV)) v st)) v st)) v st)
theorem h8x15 : RegOk [⟨(some (.l (.r (.l (.l (.l p1)))))), none, (.move (.t (.l (.r p1))))⟩, ⟨(some (.r (.r (.l (.l (.l p1)))))), none, (.move (.t (.r (.r p1))))⟩, ⟨(some (.l (.l (.r (.l (.l p1)))))), none, (.more (.conv .u8 (.t (.r (.r (.l (.l (.l p1))))))))⟩, ⟨(some (.r (.l (.r (.l (.l p1)))))), none, (.fa (nat_lit 1) (.t (.l (.l p1))))⟩, ⟨(some (.l (.r (.r (.l (.l p1)))))), none, (.more (.idxA (nat_lit 4) (nat_lit 1) (.t (.r (.l (.r (.l (.l p1)))))) (.t (.l (.r (.l (.l (.l p1))))))))⟩, ⟨none, none, (.more (.store (nat_lit 1) (.t (.l (.r (.r (.l (.l p1)))))) (.t (.l (.l (.r (.l (.l p1))))))))⟩] [] r8x15 := by
  intro call ρ st K
  kernel_rfl
noncomputable def r8x16 : RF := fun call ρ st K => binK .add (ρ (.r (.l (.l (.l p2))))) (i6 1) (fun v => (fun v0 st => K [v0] st) v st)
theorem h8x16 : RegOk [⟨(some (.r (.r (.r (.l (.l p1)))))), none, (.bin .add (.t (.r (.l (.l (.l p2))))) (.c (.sc (.int .i64 (.ofNat (nat_lit 1))))))⟩, ⟨(some (.r (.l (.l (.l p2))))), none, (.move (.t (.r (.r (.r (.l (.l p1)))))))⟩] [(.r (.l (.l (.l p2))))] r8x16 := by
  intro call ρ st K
  kernel_rfl
noncomputable def r8x17 : RF := fun call ρ st K => (fun n0 mk => fad (nat_lit 1) (ρ p1) (fun v => (fun v st => (fun v0 mk st => dw2 n0 mk (nat_lit 2) (nat_lit 1) v0 (fun q => ld1 st v0 (fun v => (q) v st)) (fun v1 mk st => ixs (nat_lit 1) v1 (i6 32) (fun v => (fun v st => (fun v2 mk st => dw2 n0 mk (nat_lit 8) (nat_lit 7) v2 (fun q => ld1 st v2 (fun v => (q) v st)) (fun v3 mk st => (fun v st => (fun v4 mk st => ixs (nat_lit 1) v3 v4 (fun v => (fun v st => (fun v5 mk st => dw2 n0 mk (nat_lit 64) (nat_lit 63) v5 (fun q => ld1 st v5 (fun v => (q) v st)) (fun v6 mk st => fad (nat_lit 1) (ρ p1) (fun v => (fun v st => (fun v7 mk st => dw2 n0 mk (nat_lit 256) (nat_lit 128) v7 (fun q => ld1 st v7 (fun v => (q) v st)) (fun v8 mk st => ixs (nat_lit 1) v8 (i6 34) (fun v => (fun v st => (fun v9 mk st => dw2 n0 mk (nat_lit 1024) (nat_lit 896) v9 (fun q => ld1 st v9 (fun v => (q) v st)) (fun v10 mk st => (fun v st => (fun v11 mk st => ixs (nat_lit 1) v10 v11 (fun v => (fun v st => (fun v12 mk st => dw2 n0 mk (nat_lit 8192) (nat_lit 8064) v12 (fun q => ld1 st v12 (fun v => (q) v st)) (fun v13 mk st => (fun v st => (fun v14 mk st => (fun v st => (fun v15 mk st => K [v14, v15] st) v mk st) v13 st) v mk st) v6 st)) v mk st) v st)) v mk st) (ρ (.r p2)) st)) v mk st) v st))) v mk st) v st))) v mk st) v st)) v mk st) (ρ (.r p2)) st)) v mk st) v st))) v mk st) v st)) st.next mk0
theorem h8x17 : DrwOk [⟨(some (.l (.l (.l (.r (.l p1)))))), none, (.fa (nat_lit 1) (.t p1)), (nat_lit 0), (nat_lit 1), (nat_lit 0)⟩, ⟨(some (.r (.l (.l (.r (.l p1)))))), none, (.load1 (.t (.l (.l (.l (.r (.l p1))))))), (nat_lit 2), (nat_lit 2), (nat_lit 1)⟩, ⟨(some (.l (.r (.l (.r (.l p1)))))), none, (.idxS (nat_lit 1) (.t (.r (.l (.l (.r (.l p1)))))) (.c (.sc (.int .i64 (.ofNat (nat_lit 32)))))), (nat_lit 0), (nat_lit 4), (nat_lit 3)⟩, ⟨(some (.r (.r (.l (.r (.l p1)))))), none, (.load1 (.t (.l (.r (.l (.r (.l p1))))))), (nat_lit 2), (nat_lit 8), (nat_lit 7)⟩, ⟨(some (.l (.l (.r (.r (.l p1)))))), none, (.move (.t (.r p2))), (nat_lit 0), (nat_lit 16), (nat_lit 0)⟩, ⟨(some (.r (.l (.r (.r (.l p1)))))), none, (.idxS (nat_lit 1) (.t (.r (.r (.l (.r (.l p1)))))) (.t (.l (.l (.r (.r (.l p1))))))), (nat_lit 0), (nat_lit 32), (nat_lit 31)⟩, ⟨(some (.l (.r (.r (.r (.l p1)))))), none, (.load1 (.t (.r (.l (.r (.r (.l p1))))))), (nat_lit 2), (nat_lit 64), (nat_lit 63)⟩, ⟨(some (.r (.r (.r (.r (.l p1)))))), none, (.fa (nat_lit 1) (.t p1)), (nat_lit 0), (nat_lit 128), (nat_lit 0)⟩, ⟨(some (.l (.l (.l (.l (.r p1)))))), none, (.load1 (.t (.r (.r (.r (.r (.l p1))))))), (nat_lit 2), (nat_lit 256), (nat_lit 128)⟩, ⟨(some (.r (.l (.l (.l (.r p1)))))), none, (.idxS (nat_lit 1) (.t (.l (.l (.l (.l (.r p1)))))) (.c (.sc (.int .i64 (.ofNat (nat_lit 34)))))), (nat_lit 0), (nat_lit 512), (nat_lit 384)⟩, ⟨(some (.l (.r (.l (.l (.r p1)))))), none, (.load1 (.t (.r (.l (.l (.l (.r p1))))))), (nat_lit 2), (nat_lit 1024), (nat_lit 896)⟩, ⟨(some (.r (.r (.l (.l (.r p1)))))), none, (.move (.t (.r p2))), (nat_lit 0), (nat_lit 2048), (nat_lit 0)⟩, ⟨(some (.l (.l (.r (.l (.r p1)))))), none, (.idxS (nat_lit 1) (.t (.l (.r (.l (.l (.r p1)))))) (.t (.r (.r (.l (.l (.r p1))))))), (nat_lit 0), (nat_lit 4096), (nat_lit 3968)⟩, ⟨(some (.r (.l (.r (.l (.r p1)))))), none, (.load1 (.t (.l (.l (.r (.l (.r p1))))))), (nat_lit 2), (nat_lit 8192), (nat_lit 8064)⟩, ⟨(some (.l (.l p2))), none, (.move (.t (.l (.r (.r (.r (.l p1))))))), (nat_lit 0), (nat_lit 16384), (nat_lit 127)⟩, ⟨(some (.r (.l p2))), none, (.move (.t (.r (.l (.r (.l (.r p1))))))), (nat_lit 0), (nat_lit 32768), (nat_lit 32767)⟩] [(.l (.l p2)), (.r (.l p2))] r8x17 := by
  intro call ρ st K
  kernel_rfl
noncomputable def r8x18 : RF := fun call ρ st K => fad (nat_lit 1) (ρ p1) (fun v => (fun v0 st => ld1 st v0 (fun v => (fun v1 st => ixs (nat_lit 1) v1 (i6 11) (fun v => (fun v2 st => ld1 st v2 (fun v => (fun v3 st => ixs (nat_lit 1) v3 (ρ (.r p2)) (fun v => (fun v4 st => ld1 st v4 (fun v => (fun v5 st => binK .eql v5 (u6 1) (fun v => (fun v6 st => K [v6] st) v st)) v st)) v st)) v st)) v st)) v st)) v st)
theorem h8x18 : RegOk [⟨(some (.l (.r (.r (.l (.r p1)))))), none, (.fa (nat_lit 1) (.t p1))⟩, ⟨(some (.r (.r (.r (.l (.r p1)))))), none, (.load1 (.t (.l (.r (.r (.l (.r p1)))))))⟩, ⟨(some (.l (.l (.l (.r (.r p1)))))), none, (.idxS (nat_lit 1) (.t (.r (.r (.r (.l (.r p1)))))) (.c (.sc (.int .i64 (.ofNat (nat_lit 11))))))⟩, ⟨(some (.r (.l (.l (.r (.r p1)))))), none, (.load1 (.t (.l (.l (.l (.r (.r p1)))))))⟩, ⟨(some (.l (.r (.l (.r (.r p1)))))), none, (.move (.t (.r p2)))⟩, ⟨(some (.r (.r (.l (.r (.r p1)))))), none, (.idxS (nat_lit 1) (.t (.r (.l (.l (.r (.r p1)))))) (.t (.l (.r (.l (.r (.r p1)))))))⟩, ⟨(some (.l (.l (.r (.r (.r p1)))))), none, (.load1 (.t (.r (.r (.l (.r (.r p1)))))))⟩, ⟨(some (.r (.l (.r (.r (.r p1)))))), none, (.bin .eql (.t (.l (.l (.r (.r (.r p1)))))) (.c (.sc (.int .u64 (.ofNat (nat_lit 1))))))⟩] [(.r (.l (.r (.r (.r p1)))))] r8x18 := by
  intro call ρ st K
  kernel_rfl
noncomputable def r8x19 : RF := fun call ρ st K => jn false (ρ (.r (.l p1))) (fun j => (j) (ρ (.l (.l p2))) st) st (fun v0 st => jn false (ρ (.r (.l p1))) (fun j => binK .geq v0 (u6 16) (fun v => (j) v st)) st (fun v1 st => pck (ρ (.r (.l p1))) (.sc (.bool true)) v1 (fun v => (fun v2 st => jn false v2 (fun j => (j) (ρ (.r (.l p2))) st) st (fun v3 st => jn false v2 (fun j => binK .gtr v3 (u6 255) (fun v => (j) v st)) st (fun v4 st => pck v2 (.sc (.bool true)) v4 (fun v => (fun v5 st => K [v5] st) v st)))) v st)))
theorem h8x19 : RegOk [⟨(some (.l (.r (.r (.r (.r p1)))))), none, (.move (.t (.r (.l p1))))⟩, ⟨(some (.r (.r (.r (.r (.r p1)))))), none, (.move (.t (.l (.r (.r (.r (.r p1)))))))⟩, ⟨(some (.l (.l (.l (.l (.l p2)))))), (some ((.r (.r (.r (.r (.r p1))))), false)), (.move (.t (.l (.l p2))))⟩, ⟨(some (.r (.l (.l (.l (.l p2)))))), (some ((.r (.r (.r (.r (.r p1))))), false)), (.bin .geq (.t (.l (.l (.l (.l (.l p2)))))) (.c (.sc (.int .u64 (.ofNat (nat_lit 16))))))⟩, ⟨(some (.l (.r (.l (.l (.l p2)))))), none, (.more (.pick (.t (.r (.r (.r (.r (.r p1)))))) (.c (.sc (.bool true))) (.t (.r (.l (.l (.l (.l p2))))))))⟩, ⟨(some (.r (.r (.l (.l (.l p2)))))), none, (.move (.t (.l (.r (.l (.l (.l p2)))))))⟩, ⟨(some (.l (.l (.r (.l (.l p2)))))), (some ((.r (.r (.l (.l (.l p2))))), false)), (.move (.t (.r (.l p2))))⟩, ⟨(some (.r (.l (.r (.l (.l p2)))))), (some ((.r (.r (.l (.l (.l p2))))), false)), (.bin .gtr (.t (.l (.l (.r (.l (.l p2)))))) (.c (.sc (.int .u64 (.ofNat (nat_lit 255))))))⟩, ⟨(some (.l (.r (.r (.l (.l p2)))))), none, (.more (.pick (.t (.r (.r (.l (.l (.l p2)))))) (.c (.sc (.bool true))) (.t (.r (.l (.r (.l (.l p2))))))))⟩, ⟨(some (.r (.l p1))), none, (.move (.t (.l (.r (.r (.l (.l p2)))))))⟩] [(.r (.l p1))] r8x19 := by
  intro call ρ st K
  kernel_rfl
noncomputable def r8x20 : RF := fun call ρ st K => binK .rem (ρ (.l (.l p2))) (u6 16) (fun v => (fun v0 st => cnv .u8 (ρ (.r (.l p2))) (fun v => (fun v1 st => ixA (nat_lit 16) (nat_lit 1) (ρ (.l p2)) v0 (fun v => (fun v2 st => sto st (nat_lit 1) v2 v1 ((fun _ st => K [] st) undefV)) v st)) v st)) v st)
theorem h8x20 : RegOk [⟨(some (.r (.r (.r (.l (.l p2)))))), none, (.move (.t (.l (.l p2))))⟩, ⟨(some (.l (.l (.l (.r (.l p2)))))), none, (.bin .rem (.t (.r (.r (.r (.l (.l p2)))))) (.c (.sc (.int .u64 (.ofNat (nat_lit 16))))))⟩, ⟨(some (.r (.l (.l (.r (.l p2)))))), none, (.move (.t (.r (.l p2))))⟩, ⟨(some (.l (.r (.l (.r (.l p2)))))), none, (.more (.conv .u8 (.t (.r (.l (.l (.r (.l p2))))))))⟩, ⟨(some (.r (.r (.l (.r (.l p2)))))), none, (.more (.idxA (nat_lit 16) (nat_lit 1) (.t (.l p2)) (.t (.l (.l (.l (.r (.l p2))))))))⟩, ⟨none, none, (.more (.store (nat_lit 1) (.t (.r (.r (.l (.r (.l p2)))))) (.t (.l (.r (.l (.r (.l p2))))))))⟩] [] r8x20 := by
  intro call ρ st K
  kernel_rfl
noncomputable def r8x21 : RF := fun call ρ st K => K [(ρ (.r (.l p1)))] st
theorem h8x21 : RegOk [⟨(some (.l (.l (.r (.r (.l p2)))))), none, (.move (.t (.r (.l p1))))⟩] [(.l (.l (.r (.r (.l p2)))))] r8x21 := by
  intro call ρ st K
  kernel_rfl
noncomputable def r8x22 : RF := fun call ρ st K => K [(.sc .nils), (i6 2)] st
theorem h8x22 : RegOk [⟨(some p2), none, (.move (.c (.sc .nils)))⟩, ⟨(some (.l p1)), none, (.move (.c (.sc (.int .i64 (.ofNat (nat_lit 2))))))⟩] [p2, (.l p1)] r8x22 := by
  intro call ρ st K
  kernel_rfl
noncomputable def r8x23 : RF := fun call ρ st K => ldN st (nat_lit 21) (ρ (.l (.l p1))) (fun v => (fun v0 st => ixs (nat_lit 21) (ρ (.r p1)) (ρ (.r p2)) (fun v => (fun v1 st => sto st (nat_lit 21) v1 v0 ((fun _ st => K [] st) undefV)) v st)) v st)
theorem h8x23 : RegOk [⟨(some (.r (.l (.r (.r (.l p2)))))), none, (.move (.t (.r p1)))⟩, ⟨(some (.l (.r (.r (.r (.l p2)))))), none, (.move (.t (.r p2)))⟩, ⟨(some (.r (.r (.r (.r (.l p2)))))), none, (.loadN (nat_lit 21) (.t (.l (.l p1))))⟩, ⟨(some (.l (.l (.l (.l (.r p2)))))), none, (.idxS (nat_lit 21) (.t (.r (.l (.r (.r (.l p2)))))) (.t (.l (.r (.r (.r (.l p2)))))))⟩, ⟨none, none, (.more (.store (nat_lit 21) (.t (.l (.l (.l (.l (.r p2)))))) (.t (.r (.r (.r (.r (.l p2))))))))⟩] [] r8x23 := by
  intro call ρ st K
  kernel_rfl
noncomputable def r8x24 : RF := fun call ρ st K => binK .add (ρ (.l (.l (.l (.l p1))))) (i6 1) (fun v => (fun v0 st => K [v0] st) v st)
theorem h8x24 : RegOk [⟨(some (.r (.l (.l (.l (.r p2)))))), none, (.bin .add (.t (.l (.l (.l (.l p1))))) (.c (.sc (.int .i64 (.ofNat (nat_lit 1))))))⟩, ⟨(some (.l (.l (.l (.l p1))))), none, (.move (.t (.r (.l (.l (.l (.r p2)))))))⟩] [(.l (.l (.l (.l p1))))] r8x24 := by
  intro call ρ st K
  kernel_rfl
noncomputable def r8x25 : RF := fun call ρ st K => K [(ρ (.r p1)), (i6 0)] st
theorem h8x25 : RegOk [⟨(some (.l (.r (.l (.l (.r p2)))))), none, (.move (.t (.r p1)))⟩, ⟨(some p2), none, (.move (.t (.l (.r (.l (.l (.r p2)))))))⟩, ⟨(some (.l p1)), none, (.move (.c (.sc (.int .i64 (.ofNat (nat_lit 0))))))⟩] [p2, (.l p1)] r8x25 := by
  intro call ρ st K
  kernel_rfl
/- attestor/trace.Read -/
noncomputable def cf8 : HF := ⟨(.seq (.reg _ _ _ h8x0)
 (.seq (.seq (.reg _ _ _ h8x1)
 (.cond (.t (.r (.r (.r p1)))) (.seq (.reg _ _ _ h8x2)
 .ret)
 .skip))
 (.seq (.reg _ _ _ h8x3)
 (.seq (.reg _ _ _ h8x4)
 (.seq (.seq (.reg _ _ _ h8x5)
 (.block (nat_lit 0) (.loop (.seq (.reg _ _ _ h8x6)
 (.seq (.cond (.t (.r (.l (.l (.l p1))))) .skip
 (.exit (nat_lit 0)))
 (.seq (.block (nat_lit 1) (.seq (.reg _ _ _ h8x7)
 (.seq (.drw _ _ _ h8x8)
 (.seq (.reg _ _ _ h8x9)
 (.seq (.seq (.reg _ _ _ h8x10)
 (.block (nat_lit 2) (.loop (.seq (.reg _ _ _ h8x11)
 (.seq (.cond (.t (.l (.r (.l (.l p2))))) .skip
 (.exit (nat_lit 2)))
 (.seq (.block (nat_lit 3) (.seq (.reg _ _ _ h8x12)
 (.seq (.reg _ _ _ h8x13)
 (.seq (.reg _ _ _ h8x14)
 (.reg _ _ _ h8x15)))))
 (.reg _ _ _ h8x16)))))))
 (.seq (.seq (.drw _ _ _ h8x17)
 (.seq (.reg _ _ _ h8x18)
 (.cond (.t (.r (.l (.r (.r (.r p1)))))) (.seq (.reg _ _ _ h8x19)
 (.reg _ _ _ h8x20))
 .skip)))
 (.seq (.seq (.reg _ _ _ h8x21)
 (.cond (.t (.l (.l (.r (.r (.l p2)))))) (.seq (.reg _ _ _ h8x22)
 .ret)
 .skip))
 (.reg _ _ _ h8x23))))))))
 (.reg _ _ _ h8x24)))))))
 (.seq (.reg _ _ _ h8x25)
 .ret)))))), [(.tmp p2), (.tmp (.l p1))], [p0], [(.l (.r p2)), (.r (.r p2)), (.l (.l (.l p1))), (.r (.l (.l p1))), (.l (.r (.l p1))), (.r (.r (.l p1))), (.l (.l (.r p1))), (.r (.l (.r p1))), (.l (.r (.r p1))), (.l (.l (.l p2))), (.r (.l (.l p2))), (.l (.r (.l p2))), (.r (.r (.l p2))), (.l (.l (.r p2))), (.r (.l (.r p2))), (.l (.r (.r p2))), (.l (.r (.l (.l p1)))), (.r (.r (.l (.l p1)))), (.l (.l (.r (.l p1)))), (.r (.l (.r (.l p1)))), (.l (.r (.r (.l p1)))), (.r (.r (.r (.l p1)))), (.l (.l (.l (.r p1)))), (.r (.l (.l (.r p1)))), (.l (.r (.l (.r p1)))), (.r (.r (.l (.r p1)))), (.l (.l (.r (.r p1)))), (.r (.l (.r (.r p1)))), (.l (.r (.r (.r p1)))), (.r (.r (.r (.r p1)))), (.l (.l (.l (.l p2)))), (.r (.r (.l (.l p2)))), (.l (.l (.r (.l p2)))), (.r (.l (.r (.l p2)))), (.l (.r (.r (.l p2)))), (.r (.r (.r (.l p2)))), (.l (.l (.l (.r p2)))), (.r (.l (.l (.r p2)))), (.l (.r (.l (.r p2)))), (.r (.r (.l (.r p2)))), (.l (.l (.r (.r p2)))), (.r (.l (.r (.r p2)))), (.l (.r (.r (.r p2)))), (.r (.r (.r (.r p2)))), (.l (.l (.l (.l (.l p1))))), (.r (.l (.l (.l (.l p1))))), (.l (.r (.l (.l (.l p1))))), (.r (.r (.l (.l (.l p1))))), (.l (.l (.r (.l (.l p1))))), (.r (.l (.r (.l (.l p1))))), (.l (.r (.r (.l (.l p1))))), (.r (.r (.r (.l (.l p1))))), (.l (.l (.l (.r (.l p1))))), (.r (.l (.l (.r (.l p1))))), (.l (.r (.l (.r (.l p1))))), (.r (.r (.l (.r (.l p1))))), (.l (.l (.r (.r (.l p1))))), (.r (.l (.r (.r (.l p1))))), (.l (.r (.r (.r (.l p1))))), (.r (.r (.r (.r (.l p1))))), (.l (.l (.l (.l (.r p1))))), (.r (.l (.l (.l (.r p1))))), (.l (.r (.l (.l (.r p1))))), (.r (.r (.l (.l (.r p1))))), (.l (.l (.r (.l (.r p1))))), (.r (.l (.r (.l (.r p1))))), (.l (.r (.r (.l (.r p1))))), (.r (.r (.r (.l (.r p1))))), (.l (.l (.l (.r (.r p1))))), (.r (.l (.l (.r (.r p1))))), (.l (.r (.l (.r (.r p1))))), (.r (.r (.l (.r (.r p1))))), (.l (.l (.r (.r (.r p1))))), (.l (.r (.r (.r (.r p1))))), (.r (.r (.r (.r (.r p1))))), (.l (.l (.l (.l (.l p2))))), (.r (.l (.l (.l (.l p2))))), (.l (.r (.l (.l (.l p2))))), (.r (.r (.l (.l (.l p2))))), (.l (.l (.r (.l (.l p2))))), (.r (.l (.r (.l (.l p2))))), (.l (.r (.r (.l (.l p2))))), (.r (.r (.r (.l (.l p2))))), (.l (.l (.l (.r (.l p2))))), (.r (.l (.l (.r (.l p2))))), (.l (.r (.l (.r (.l p2))))), (.r (.r (.l (.r (.l p2))))), (.r (.l (.r (.r (.l p2))))), (.l (.r (.r (.r (.l p2))))), (.r (.r (.r (.r (.l p2))))), (.l (.l (.l (.l (.r p2))))), (.r (.l (.l (.l (.r p2))))), (.l (.r (.l (.l (.r p2)))))]⟩
noncomputable def r23x0 : RF := fun call ρ st K => K [(.sc (.bool false))] st
theorem h23x0 : RegOk [⟨(some (.r p1)), none, (.move (.c (.sc (.bool false))))⟩] [(.r p1)] r23x0 := by
  intro call ρ st K
  kernel_rfl
noncomputable def r23x1 : RF := fun call ρ st K => call (nat_lit 46) [(ρ p0), (ρ p1)] st (fun v0 st => binK .geq v0 (i6 0) (fun v => (fun v1 st => K [v1] st) v st))
theorem h23x1 : RegOk [⟨(some (.l p2)), none, (.move (.t p0))⟩, ⟨(some (.r p2)), none, (.move (.t p1))⟩, ⟨(some (.l (.l p1))), none, (.call (nat_lit 46) [(.t (.l p2)), (.t (.r p2))])⟩, ⟨(some (.r (.l p1))), none, (.bin .geq (.t (.l (.l p1))) (.c (.sc (.int .i64 (.ofNat (nat_lit 0))))))⟩, ⟨(some (.r p1)), none, (.move (.t (.r (.l p1))))⟩] [(.r p1)] r23x1 := by
  intro call ρ st K
  kernel_rfl
/- slices.ContainsFunc[[][]uint64,[]uint64] -/
noncomputable def cf23 : HF := ⟨(.seq (.reg _ _ _ h23x0)
 (.seq (.reg _ _ _ h23x1)
 .ret)), [(.tmp (.r p1))], [p0, p1], [(.l p2), (.r p2), (.l (.l p1)), (.r (.l p1))]⟩
noncomputable def r46x0 : RF := fun call ρ st K => K [(i6 0)] st
theorem h46x0 : RegOk [⟨(some (.r p1)), none, (.move (.c (.sc (.int .i64 (.ofNat (nat_lit 0))))))⟩] [(.r p1)] r46x0 := by
  intro call ρ st K
  kernel_rfl
noncomputable def r46x1 : RF := fun call ρ st K => lnS (ρ p0) (fun v => (fun v0 st => K [v0, (i6 0)] st) v st)
theorem h46x1 : RegOk [⟨(some (.r p2)), none, (.move (.t p0))⟩, ⟨(some (.l (.l p1))), none, (.more (.len (.t (.r p2))))⟩, ⟨(some (.r (.l p1))), none, (.move (.c (.sc (.int .i64 (.ofNat (nat_lit 0))))))⟩] [(.l (.l p1)), (.r (.l p1))] r46x1 := by
  intro call ρ st K
  kernel_rfl
noncomputable def r46x2 : RF := fun call ρ st K => binK .lss (ρ (.r (.l p1))) (ρ (.l (.l p1))) (fun v => (fun v0 st => K [v0] st) v st)
theorem h46x2 : RegOk [⟨(some (.l (.r p1))), none, (.bin .lss (.t (.r (.l p1))) (.t (.l (.l p1))))⟩] [(.l (.r p1))] r46x2 := by
  intro call ρ st K
  kernel_rfl
noncomputable def r46x3 : RF := fun call ρ st K => K [(ρ (.r (.l p1)))] st
theorem h46x3 : RegOk [⟨(some (.r (.r p1))), none, (.move (.t (.r (.l p1))))⟩, ⟨(some (.l p2)), none, (.move (.t (.r (.r p1))))⟩] [(.l p2)] r46x3 := by
  intro call ρ st K
  kernel_rfl
noncomputable def r46x4 : RF := fun call ρ st K => ixs (nat_lit 1) (ρ p0) (ρ (.l p2)) (fun v => (fun v0 st => ld1 st v0 (fun v => (fun v1 st => h_op4_callV (.c (ρ p1)) [(.c v1)] call ρ st (fun v2 st => K [v2] st)) v st)) v st)
theorem h46x4 : RegOk [⟨(some (.l (.l p2))), none, (.move (.t p1))⟩, ⟨(some (.r (.l p2))), none, (.move (.t p0))⟩, ⟨(some (.l (.r p2))), none, (.move (.t (.l p2)))⟩, ⟨(some (.r (.r p2))), none, (.idxS (nat_lit 1) (.t (.r (.l p2))) (.t (.l (.r p2))))⟩, ⟨(some (.l (.l (.l p1)))), none, (.load1 (.t (.r (.r p2))))⟩, ⟨(some (.r (.l (.l p1)))), none, (.more (.more (.more (.callV (.t (.l (.l p2))) [(.t (.l (.l (.l p1))))]))))⟩] [(.r (.l (.l p1)))] r46x4 := by
  intro call ρ st K
  kernel_rfl
noncomputable def r46x5 : RF := fun call ρ st K => K [(ρ (.l p2))] st
theorem h46x5 : RegOk [⟨(some (.l (.r (.l p1)))), none, (.move (.t (.l p2)))⟩, ⟨(some (.r p1)), none, (.move (.t (.l (.r (.l p1)))))⟩] [(.r p1)] r46x5 := by
  intro call ρ st K
  kernel_rfl
noncomputable def r46x6 : RF := fun call ρ st K => binK .add (ρ (.r (.l p1))) (i6 1) (fun v => (fun v0 st => K [v0] st) v st)
theorem h46x6 : RegOk [⟨(some (.r (.r (.l p1)))), none, (.bin .add (.t (.r (.l p1))) (.c (.sc (.int .i64 (.ofNat (nat_lit 1))))))⟩, ⟨(some (.r (.l p1))), none, (.move (.t (.r (.r (.l p1)))))⟩] [(.r (.l p1))] r46x6 := by
  intro call ρ st K
  kernel_rfl
noncomputable def r46x7 : RF := fun call ρ st K => (fun v0 => K [v0] st) (.sc (.int .i64 (.negSucc (nat_lit 0))))
theorem h46x7 : RegOk [⟨(some (.r p1)), none, (.move (.c (.sc (.int .i64 (.negSucc (nat_lit 0))))))⟩] [(.r p1)] r46x7 := by
  intro call ρ st K
  kernel_rfl
/- slices.IndexFunc[[][]uint64,[]uint64] -/
noncomputable def cf46 : HF := ⟨(.seq (.reg _ _ _ h46x0)
 (.seq (.seq (.reg _ _ _ h46x1)
 (.block (nat_lit 0) (.loop (.seq (.reg _ _ _ h46x2)
 (.seq (.cond (.t (.l (.r p1))) .skip
 (.exit (nat_lit 0)))
 (.seq (.block (nat_lit 1) (.seq (.reg _ _ _ h46x3)
 (.seq (.reg _ _ _ h46x4)
 (.cond (.t (.r (.l (.l p1)))) (.seq (.reg _ _ _ h46x5)
 .ret)
 .skip))))
 (.reg _ _ _ h46x6)))))))
 (.seq (.reg _ _ _ h46x7)
 .ret))), [(.tmp (.r p1))], [p0, p1], [(.r p2), (.r (.r p1)), (.l (.l p2)), (.r (.l p2)), (.l (.r p2)), (.r (.r p2)), (.l (.l (.l p1))), (.l (.r (.l p1))), (.r (.r (.l p1)))]⟩
noncomputable def r24x0 : RF := fun call ρ st K => K [(.sc (.bool false))] st
theorem h24x0 : RegOk [⟨(some (.l p1)), none, (.move (.c (.sc (.bool false))))⟩] [(.l p1)] r24x0 := by
  intro call ρ st K
  kernel_rfl
noncomputable def r24x1 : RF := fun call ρ st K => lnS (ρ p0) (fun v => (fun v0 st => fad (nat_lit 1) (ρ p1) (fun v => (fun v1 st => ld1 st v1 (fun v => (fun v2 st => ixs (nat_lit 1) v2 (i6 0) (fun v => (fun v3 st => ld1 st v3 (fun v => (fun v4 st => lnS v4 (fun v => (fun v5 st => binK .neq v0 v5 (fun v => (fun v6 st => K [v6] st) v st)) v st)) v st)) v st)) v st)) v st)) v st)
theorem h24x1 : RegOk [⟨(some (.r p1)), none, (.move (.t p0))⟩, ⟨(some (.l p2)), none, (.more (.len (.t (.r p1))))⟩, ⟨(some (.r p2)), none, (.fa (nat_lit 1) (.t p1))⟩, ⟨(some (.l (.l p1))), none, (.load1 (.t (.r p2)))⟩, ⟨(some (.r (.l p1))), none, (.idxS (nat_lit 1) (.t (.l (.l p1))) (.c (.sc (.int .i64 (.ofNat (nat_lit 0))))))⟩, ⟨(some (.l (.r p1))), none, (.load1 (.t (.r (.l p1))))⟩, ⟨(some (.r (.r p1))), none, (.more (.len (.t (.l (.r p1)))))⟩, ⟨(some (.l (.l p2))), none, (.bin .neq (.t (.l p2)) (.t (.r (.r p1))))⟩, ⟨(some (.l p1)), none, (.move (.t (.l (.l p2))))⟩] [(.l p1)] r24x1 := by
  intro call ρ st K
  kernel_rfl
/- attestor/trace.Read$1 -/
noncomputable def cf24 : HF := ⟨(.seq (.reg _ _ _ h24x0)
 (.seq (.reg _ _ _ h24x1)
 .ret)), [(.tmp (.l p1))], [p0, p1], [(.r p1), (.l p2), (.r p2), (.l (.l p1)), (.r (.l p1)), (.l (.r p1)), (.r (.r p1)), (.l (.l p2))]⟩
noncomputable def r7x0 : RF := fun call ρ st K => K [(.sc (.bool false))] st
theorem h7x0 : RegOk [⟨(some (.r p1)), none, (.move (.c (.sc (.bool false))))⟩] [(.r p1)] r7x0 := by
  intro call ρ st K
  kernel_rfl
noncomputable def r7x1 : RF := fun call ρ st K => lnS (ρ p0) (fun v => (fun v0 st => lnS (ρ p1) (fun v => (fun v1 st => binK .neq v0 v1 (fun v => (fun v2 st => K [v2] st) v st)) v st)) v st)
theorem h7x1 : RegOk [⟨(some (.r p2)), none, (.move (.t p0))⟩, ⟨(some (.l (.l p1))), none, (.more (.len (.t (.r p2))))⟩, ⟨(some (.r (.l p1))), none, (.move (.t p1))⟩, ⟨(some (.l (.r p1))), none, (.more (.len (.t (.r (.l p1)))))⟩, ⟨(some (.r (.r p1))), none, (.bin .neq (.t (.l (.l p1))) (.t (.l (.r p1))))⟩] [(.r (.r p1))] r7x1 := by
  intro call ρ st K
  kernel_rfl
noncomputable def r7x2 : RF := fun call ρ st K => K [(.sc (.bool false))] st
theorem h7x2 : RegOk [⟨(some (.r p1)), none, (.move (.c (.sc (.bool false))))⟩] [(.r p1)] r7x2 := by
  intro call ρ st K
  kernel_rfl
noncomputable def r7x3 : RF := fun call ρ st K => K [(i6 0)] st
theorem h7x3 : RegOk [⟨(some (.l p2)), none, (.move (.c (.sc (.int .i64 (.ofNat (nat_lit 0))))))⟩] [(.l p2)] r7x3 := by
  intro call ρ st K
  kernel_rfl
noncomputable def r7x4 : RF := fun call ρ st K => lnS (ρ p0) (fun v => (fun v0 st => binK .lss (ρ (.l p2)) v0 (fun v => (fun v1 st => K [v1] st) v st)) v st)
theorem h7x4 : RegOk [⟨(some (.l (.l p2))), none, (.move (.t (.l p2)))⟩, ⟨(some (.r (.l p2))), none, (.move (.t p0))⟩, ⟨(some (.l (.r p2))), none, (.more (.len (.t (.r (.l p2)))))⟩, ⟨(some (.r (.r p2))), none, (.bin .lss (.t (.l (.l p2))) (.t (.l (.r p2))))⟩] [(.r (.r p2))] r7x4 := by
  intro call ρ st K
  kernel_rfl
noncomputable def r7x5 : RF := fun call ρ st K => (fun n0 mk => (fun v st => (fun v0 mk st => (fun v st => (fun v1 mk st => ixs (nat_lit 1) v0 v1 (fun v => (fun v st => (fun v2 mk st => dw2 n0 mk (nat_lit 8) (nat_lit 7) v2 (fun q => ld1 st v2 (fun v => (q) v st)) (fun v3 mk st => (fun v st => (fun v4 mk st => (fun v st => (fun v5 mk st => ixs (nat_lit 1) v4 v5 (fun v => (fun v st => (fun v6 mk st => dw2 n0 mk (nat_lit 128) (nat_lit 112) v6 (fun q => ld1 st v6 (fun v => (q) v st)) (fun v7 mk st => binK .neq v3 v7 (fun v => (fun v st => (fun v8 mk st => K [v8] st) v mk st) v st))) v mk st) v st)) v mk st) (ρ (.l p2)) st) v mk st) (ρ p1) st)) v mk st) v st)) v mk st) (ρ (.l p2)) st) v mk st) (ρ p0) st) st.next mk0
theorem h7x5 : DrwOk [⟨(some (.l (.r (.l p1)))), none, (.move (.t p0)), (nat_lit 0), (nat_lit 1), (nat_lit 0)⟩, ⟨(some (.r (.r (.l p1)))), none, (.move (.t (.l p2))), (nat_lit 0), (nat_lit 2), (nat_lit 0)⟩, ⟨(some (.l (.l (.r p1)))), none, (.idxS (nat_lit 1) (.t (.l (.r (.l p1)))) (.t (.r (.r (.l p1))))), (nat_lit 0), (nat_lit 4), (nat_lit 3)⟩, ⟨(some (.r (.l (.r p1)))), none, (.load1 (.t (.l (.l (.r p1))))), (nat_lit 2), (nat_lit 8), (nat_lit 7)⟩, ⟨(some (.l (.r (.r p1)))), none, (.move (.t p1)), (nat_lit 0), (nat_lit 16), (nat_lit 0)⟩, ⟨(some (.r (.r (.r p1)))), none, (.move (.t (.l p2))), (nat_lit 0), (nat_lit 32), (nat_lit 0)⟩, ⟨(some (.l (.l (.l p2)))), none, (.idxS (nat_lit 1) (.t (.l (.r (.r p1)))) (.t (.r (.r (.r p1))))), (nat_lit 0), (nat_lit 64), (nat_lit 48)⟩, ⟨(some (.r (.l (.l p2)))), none, (.load1 (.t (.l (.l (.l p2))))), (nat_lit 2), (nat_lit 128), (nat_lit 112)⟩, ⟨(some (.l (.r (.l p2)))), none, (.bin .neq (.t (.r (.l (.r p1)))) (.t (.r (.l (.l p2))))), (nat_lit 0), (nat_lit 256), (nat_lit 255)⟩] [(.l (.r (.l p2)))] r7x5 := by
  intro call ρ st K
  kernel_rfl
noncomputable def r7x6 : RF := fun call ρ st K => K [(.sc (.bool false))] st
theorem h7x6 : RegOk [⟨(some (.r p1)), none, (.move (.c (.sc (.bool false))))⟩] [(.r p1)] r7x6 := by
  intro call ρ st K
  kernel_rfl
noncomputable def r7x7 : RF := fun call ρ st K => binK .add (ρ (.l p2)) (i6 1) (fun v => (fun v0 st => K [v0] st) v st)
theorem h7x7 : RegOk [⟨(some (.l (.l (.l p1)))), none, (.move (.t (.l p2)))⟩, ⟨(some (.r (.l (.l p1)))), none, (.bin .add (.t (.l (.l (.l p1)))) (.c (.sc (.int .i64 (.ofNat (nat_lit 1))))))⟩, ⟨(some (.l p2)), none, (.move (.t (.r (.l (.l p1)))))⟩] [(.l p2)] r7x7 := by
  intro call ρ st K
  kernel_rfl
noncomputable def r7x8 : RF := fun call ρ st K => K [(.sc (.bool true))] st
theorem h7x8 : RegOk [⟨(some (.r p1)), none, (.move (.c (.sc (.bool true))))⟩] [(.r p1)] r7x8 := by
  intro call ρ st K
  kernel_rfl
/- attestor/attestorref13.Equal -/
noncomputable def cf7 : HF := ⟨(.seq (.reg _ _ _ h7x0)
 (.seq (.seq (.reg _ _ _ h7x1)
 (.cond (.t (.r (.r p1))) (.seq (.reg _ _ _ h7x2)
 .ret)
 .skip))
 (.seq (.seq (.reg _ _ _ h7x3)
 (.block (nat_lit 0) (.loop (.seq (.seq (.reg _ _ _ h7x4)
 (.cond (.t (.r (.r p2))) .skip
 (.exit (nat_lit 0))))
 (.seq (.block (nat_lit 1) (.seq (.drw _ _ _ h7x5)
 (.cond (.t (.l (.r (.l p2)))) (.seq (.reg _ _ _ h7x6)
 .ret)
 .skip)))
 (.reg _ _ _ h7x7))))))
 (.seq (.reg _ _ _ h7x8)
 .ret)))), [(.tmp (.r p1))], [p0, p1], [(.r p2), (.l (.l p1)), (.r (.l p1)), (.l (.r p1)), (.l (.l p2)), (.r (.l p2)), (.l (.r p2)), (.l (.r (.l p1))), (.r (.r (.l p1))), (.l (.l (.r p1))), (.r (.l (.r p1))), (.l (.r (.r p1))), (.r (.r (.r p1))), (.l (.l (.l p2))), (.r (.l (.l p2))), (.l (.l (.l p1))), (.r (.l (.l p1)))]⟩
noncomputable def r6x0 : RF := fun call ρ st K => alc st [(.int .i64 (.ofNat (nat_lit 0))), (.int .i64 (.ofNat (nat_lit 0))), (.int .i64 (.ofNat (nat_lit 0))), (.int .i64 (.ofNat (nat_lit 0))), .nils, .nils, .nils, .nils] (fun v0 st => K [v0, (i6 0)] st)
theorem h6x0 : RegOk [⟨(some (.r p1)), none, (.more (.alloc [(.int .i64 (.ofNat (nat_lit 0))), (.int .i64 (.ofNat (nat_lit 0))), (.int .i64 (.ofNat (nat_lit 0))), (.int .i64 (.ofNat (nat_lit 0))), .nils, .nils, .nils, .nils]))⟩, ⟨(some (.l p2)), none, (.move (.c (.sc (.int .i64 (.ofNat (nat_lit 0))))))⟩] [(.r p1), (.l p2)] r6x0 := by
  intro call ρ st K
  kernel_rfl
noncomputable def r6x1 : RF := fun call ρ st K => call (nat_lit 10) [(ρ p0), (ρ p1)] st (fun v0 st => K [v0] st)
theorem h6x1 : RegOk [⟨(some (.r (.l (.l p1)))), none, (.move (.t p0))⟩, ⟨(some (.l (.r (.l p1)))), none, (.move (.t p1))⟩, ⟨(some (.r (.r (.l p1)))), none, (.call (nat_lit 10) [(.t (.r (.l (.l p1)))), (.t (.l (.r (.l p1))))])⟩, ⟨(some (.r p2)), none, (.move (.t (.r (.r (.l p1)))))⟩] [(.r p2)] r6x1 := by
  intro call ρ st K
  kernel_rfl
noncomputable def r6x2 : RF := fun call ρ st K => binK .neq (ρ (.r p2)) (i6 0) (fun v => (fun v0 st => K [v0] st) v st)
theorem h6x2 : RegOk [⟨(some (.l (.l (.r p1)))), none, (.move (.t (.r p2)))⟩, ⟨(some (.r (.l (.r p1)))), none, (.bin .neq (.t (.l (.l (.r p1)))) (.c (.sc (.int .i64 (.ofNat (nat_lit 0))))))⟩] [(.r (.l (.r p1)))] r6x2 := by
  intro call ρ st K
  kernel_rfl
noncomputable def r6x3 : RF := fun call ρ st K => h_op3_build [(.int .i64 (.ofNat (nat_lit 0))), (.int .i64 (.ofNat (nat_lit 0))), (.int .i64 (.ofNat (nat_lit 0))), (.int .i64 (.ofNat (nat_lit 0))), .nils, .nils, .nils, .nils] [] call ρ st (fun v0 st => sto st (nat_lit 8) (ρ (.r p1)) v0 ((fun _ st => K [(ρ (.r p2))] st) undefV))
theorem h6x3 : RegOk [⟨(some (.l (.r (.r p1)))), none, (.more (.more (.build [(.int .i64 (.ofNat (nat_lit 0))), (.int .i64 (.ofNat (nat_lit 0))), (.int .i64 (.ofNat (nat_lit 0))), (.int .i64 (.ofNat (nat_lit 0))), .nils, .nils, .nils, .nils] [])))⟩, ⟨(some (.r (.r (.r p1)))), none, (.move (.t (.r p2)))⟩, ⟨none, none, (.more (.store (nat_lit 8) (.t (.r p1)) (.t (.l (.r (.r p1))))))⟩, ⟨(some (.l p2)), none, (.move (.t (.r (.r (.r p1)))))⟩] [(.l p2)] r6x3 := by
  intro call ρ st K
  kernel_rfl
noncomputable def r6x4 : RF := fun call ρ st K => call (nat_lit 17) [] st (fun v0 st => h_op3_build [(.int .i64 (.ofNat (nat_lit 0))), (.int .i64 (.ofNat (nat_lit 0))), (.int .i64 (.ofNat (nat_lit 0))), (.int .i64 (.ofNat (nat_lit 0))), .nils, .nils, .nils, .nils] [((nat_lit 0), (nat_lit 1), (.c (i6 3))), ((nat_lit 1), (nat_lit 1), (.c (ρ p1))), ((nat_lit 2), (nat_lit 1), (.c (i6 50))), ((nat_lit 3), (nat_lit 1), (.c (i6 8))), ((nat_lit 5), (nat_lit 1), (.c v0))] call ρ st (fun v1 st => alc st [(.int .i64 (.ofNat (nat_lit 0))), (.int .i64 (.ofNat (nat_lit 0))), (.int .i64 (.ofNat (nat_lit 0))), (.int .i64 (.ofNat (nat_lit 0))), .nils, .nils, .nils, .nils] (fun v2 st => sto st (nat_lit 8) v2 v1 ((fun _ st => K [v2] st) undefV))))
theorem h6x4 : RegOk [⟨(some (.l (.l (.l p2)))), none, (.move (.t p1))⟩, ⟨(some (.r (.l (.l p2)))), none, (.call (nat_lit 17) [])⟩, ⟨(some (.l (.r (.l p2)))), none, (.more (.more (.build [(.int .i64 (.ofNat (nat_lit 0))), (.int .i64 (.ofNat (nat_lit 0))), (.int .i64 (.ofNat (nat_lit 0))), (.int .i64 (.ofNat (nat_lit 0))), .nils, .nils, .nils, .nils] [((nat_lit 0), (nat_lit 1), (.c (.sc (.int .i64 (.ofNat (nat_lit 3)))))), ((nat_lit 1), (nat_lit 1), (.t (.l (.l (.l p2))))), ((nat_lit 2), (nat_lit 1), (.c (.sc (.int .i64 (.ofNat (nat_lit 50)))))), ((nat_lit 3), (nat_lit 1), (.c (.sc (.int .i64 (.ofNat (nat_lit 8)))))), ((nat_lit 5), (nat_lit 1), (.t (.r (.l (.l p2)))))])))⟩, ⟨(some (.l (.l p1))), none, (.more (.alloc [(.int .i64 (.ofNat (nat_lit 0))), (.int .i64 (.ofNat (nat_lit 0))), (.int .i64 (.ofNat (nat_lit 0))), (.int .i64 (.ofNat (nat_lit 0))), .nils, .nils, .nils, .nils]))⟩, ⟨none, none, (.more (.store (nat_lit 8) (.t (.l (.l p1))) (.t (.l (.r (.l p2))))))⟩] [(.l (.l p1))] r6x4 := by
  intro call ρ st K
  kernel_rfl
noncomputable def r6x5 : RF := fun call ρ st K => h_op3_makeS (nat_lit 1) (nat_lit 24) [.nils] (.c (i6 4)) (.c (i6 4)) call ρ st (fun v0 st => fad (nat_lit 4) (ρ (.l (.l p1))) (fun v => (fun v1 st => sto st (nat_lit 1) v1 v0 ((fun _ st => K [] st) undefV)) v st))
theorem h6x5 : RegOk [⟨(some (.r (.r (.l p2)))), none, (.more (.more (.makeS (nat_lit 1) (nat_lit 24) [.nils] (.c (.sc (.int .i64 (.ofNat (nat_lit 4))))) (.c (.sc (.int .i64 (.ofNat (nat_lit 4))))))))⟩, ⟨(some (.l (.l (.r p2)))), none, (.fa (nat_lit 4) (.t (.l (.l p1))))⟩, ⟨none, none, (.more (.store (nat_lit 1) (.t (.l (.l (.r p2)))) (.t (.r (.r (.l p2))))))⟩] [] r6x5 := by
  intro call ρ st K
  kernel_rfl
noncomputable def r6x6 : RF := fun call ρ st K => h_op4_shift true (.c (i6 1)) (.c (ρ p1)) call ρ st (fun v0 st => K [v0, (i6 0)] st)
theorem h6x6 : RegOk [⟨(some (.r (.l (.r p2)))), none, (.move (.t p1))⟩, ⟨(some (.l (.r (.r p2)))), none, (.more (.more (.more (.shift true (.c (.sc (.int .i64 (.ofNat (nat_lit 1))))) (.t (.r (.l (.r p2))))))))⟩, ⟨(some (.r (.r (.r p2)))), none, (.move (.c (.sc (.int .i64 (.ofNat (nat_lit 0))))))⟩] [(.l (.r (.r p2))), (.r (.r (.r p2)))] r6x6 := by
  intro call ρ st K
  kernel_rfl
noncomputable def r6x7 : RF := fun call ρ st K => binK .lss (ρ (.r (.r (.r p2)))) (ρ (.l (.r (.r p2)))) (fun v => (fun v0 st => K [v0] st) v st)
theorem h6x7 : RegOk [⟨(some (.l (.l (.l (.l p1))))), none, (.bin .lss (.t (.r (.r (.r p2)))) (.t (.l (.r (.r p2)))))⟩] [(.l (.l (.l (.l p1))))] r6x7 := by
  intro call ρ st K
  kernel_rfl
noncomputable def r6x8 : RF := fun call ρ st K => K [(ρ (.r (.r (.r p2))))] st
theorem h6x8 : RegOk [⟨(some (.r (.l (.l (.l p1))))), none, (.move (.t (.r (.r (.r p2)))))⟩, ⟨(some (.r (.l p1))), none, (.move (.t (.r (.l (.l (.l p1))))))⟩] [(.r (.l p1))] r6x8 := by
  intro call ρ st K
  kernel_rfl
noncomputable def r6x9 : RF := fun call ρ st K => call (nat_lit 18) [(ρ p0), (ρ (.r (.l p1)))] st (fun v0 st => alc st [(.int .u8 (.ofNat (nat_lit 0))), (.int .u8 (.ofNat (nat_lit 0))), (.int .u8 (.ofNat (nat_lit 0))), (.int .u8 (.ofNat (nat_lit 0)))] (fun v1 st => sto st (nat_lit 4) v1 v0 ((fun _ st => K [v1] st) undefV)))
theorem h6x9 : RegOk [⟨(some (.l (.r (.l (.l p1))))), none, (.move (.t p0))⟩, ⟨(some (.r (.r (.l (.l p1))))), none, (.move (.t (.r (.l p1))))⟩, ⟨(some (.l (.l (.r (.l p1))))), none, (.call (nat_lit 18) [(.t (.l (.r (.l (.l p1))))), (.t (.r (.r (.l (.l p1)))))])⟩, ⟨(some (.l (.r p1))), none, (.more (.alloc [(.int .u8 (.ofNat (nat_lit 0))), (.int .u8 (.ofNat (nat_lit 0))), (.int .u8 (.ofNat (nat_lit 0))), (.int .u8 (.ofNat (nat_lit 0)))]))⟩, ⟨none, none, (.more (.store (nat_lit 4) (.t (.l (.r p1))) (.t (.l (.l (.r (.l p1)))))))⟩] [(.l (.r p1))] r6x9 := by
  intro call ρ st K
  kernel_rfl
noncomputable def r6x10 : RF := fun call ρ st K => (fun n0 mk => (fun v st => (fun v0 mk st => cnv .u64 v0 (fun v => (fun v st => (fun v1 mk st => (fun v st => (fun v2 mk st => binK .rem v2 (i6 16) (fun v => (fun v st => (fun v3 mk st => cnv .u64 v3 (fun v => (fun v st => (fun v4 mk st => dw2 n0 mk (nat_lit 32) (nat_lit 0) (ρ (.l (.r p1))) (fun q => ldN st (nat_lit 4) (ρ (.l (.r p1))) (fun v => (q) v st)) (fun v5 mk st => dw3 mk (nat_lit 64) (nat_lit 32) st (fun st q => call (nat_lit 19) [v5] st (q)) (fun v6 mk st => fad (nat_lit 3) (ρ (.l (.r p1))) (fun v => (fun v st => (fun v7 mk st => dw2 n0 mk (nat_lit 256) (nat_lit 128) v7 (fun q => ld1 st v7 (fun v => (q) v st)) (fun v8 mk st => cnv .u64 v8 (fun v => (fun v st => (fun v9 mk st => h_op3_build [(.int .u64 (.ofNat (nat_lit 0))), (.int .u64 (.ofNat (nat_lit 0))), (.int .u64 (.ofNat (nat_lit 0))), (.int .u64 (.ofNat (nat_lit 0)))] [((nat_lit 0), (nat_lit 1), (.c v1)), ((nat_lit 1), (nat_lit 1), (.c v4)), ((nat_lit 2), (nat_lit 1), (.c v6)), ((nat_lit 3), (nat_lit 1), (.c v9))] call ρ st (fun v st => (fun v10 mk st => (fun v st => (fun v11 mk st => K [v10, v11] st) v mk st) (i6 0) st) v mk st)) v mk st) v st))) v mk st) v st)))) v mk st) v st)) v mk st) v st)) v mk st) (ρ (.r (.l p1))) st) v mk st) v st)) v mk st) (ρ (.r (.l p1))) st) st.next mk0
theorem h6x10 : DrwOk [⟨(some (.r (.l (.r (.l p1))))), none, (.move (.t (.r (.l p1)))), (nat_lit 0), (nat_lit 1), (nat_lit 0)⟩, ⟨(some (.l (.r (.r (.l p1))))), none, (.more (.conv .u64 (.t (.r (.l (.r (.l p1))))))), (nat_lit 0), (nat_lit 2), (nat_lit 1)⟩, ⟨(some (.r (.r (.r (.l p1))))), none, (.move (.t (.r (.l p1)))), (nat_lit 0), (nat_lit 4), (nat_lit 0)⟩, ⟨(some (.l (.l (.l (.r p1))))), none, (.bin .rem (.t (.r (.r (.r (.l p1))))) (.c (.sc (.int .i64 (.ofNat (nat_lit 16)))))), (nat_lit 0), (nat_lit 8), (nat_lit 4)⟩, ⟨(some (.r (.l (.l (.r p1))))), none, (.more (.conv .u64 (.t (.l (.l (.l (.r p1))))))), (nat_lit 0), (nat_lit 16), (nat_lit 12)⟩, ⟨(some (.l (.r (.l (.r p1))))), none, (.loadN (nat_lit 4) (.t (.l (.r p1)))), (nat_lit 2), (nat_lit 32), (nat_lit 0)⟩, ⟨(some (.r (.r (.l (.r p1))))), none, (.call (nat_lit 19) [(.t (.l (.r (.l (.r p1)))))]), (nat_lit 3), (nat_lit 64), (nat_lit 32)⟩, ⟨(some (.l (.l (.r (.r p1))))), none, (.fa (nat_lit 3) (.t (.l (.r p1)))), (nat_lit 0), (nat_lit 128), (nat_lit 0)⟩, ⟨(some (.r (.l (.r (.r p1))))), none, (.load1 (.t (.l (.l (.r (.r p1)))))), (nat_lit 2), (nat_lit 256), (nat_lit 128)⟩, ⟨(some (.l (.r (.r (.r p1))))), none, (.more (.conv .u64 (.t (.r (.l (.r (.r p1))))))), (nat_lit 0), (nat_lit 512), (nat_lit 384)⟩, ⟨(some (.r (.r (.r (.r p1))))), none, (.more (.more (.build [(.int .u64 (.ofNat (nat_lit 0))), (.int .u64 (.ofNat (nat_lit 0))), (.int .u64 (.ofNat (nat_lit 0))), (.int .u64 (.ofNat (nat_lit 0)))] [((nat_lit 0), (nat_lit 1), (.t (.l (.r (.r (.l p1)))))), ((nat_lit 1), (nat_lit 1), (.t (.r (.l (.l (.r p1)))))), ((nat_lit 2), (nat_lit 1), (.t (.r (.r (.l (.r p1)))))), ((nat_lit 3), (nat_lit 1), (.t (.l (.r (.r (.r p1))))))]))), (nat_lit 0), (nat_lit 1024), (nat_lit 1023)⟩, ⟨(some (.l (.l (.l (.l p2))))), none, (.move (.c (.sc (.int .i64 (.ofNat (nat_lit 0)))))), (nat_lit 0), (nat_lit 2048), (nat_lit 0)⟩] [(.r (.r (.r (.r p1)))), (.l (.l (.l (.l p2))))] r6x10 := by
  intro call ρ st K
  kernel_rfl
noncomputable def r6x11 : RF := fun call ρ st K => binK .lss (ρ (.l (.l (.l (.l p2))))) (i6 4) (fun v => (fun v0 st => K [v0] st) v st)
theorem h6x11 : RegOk [⟨(some (.r (.l (.l (.l p2))))), none, (.bin .lss (.t (.l (.l (.l (.l p2))))) (.c (.sc (.int .i64 (.ofNat (nat_lit 4))))))⟩] [(.r (.l (.l (.l p2))))] r6x11 := by
  intro call ρ st K
  kernel_rfl
noncomputable def r6x12 : RF := fun call ρ st K => (fun v0 => h_op2_idxV (nat_lit 4) (nat_lit 1) false (.c (ρ (.r (.r (.r (.r p1)))))) (.c (ρ (.l (.l (.l (.l p2)))))) call ρ st (fun v1 st => K [v0, v1] st)) (ρ (.l (.l (.l (.l p2)))))
theorem h6x12 : RegOk [⟨(some (.l (.r (.l (.l p2))))), none, (.move (.t (.l (.l (.l (.l p2))))))⟩, ⟨(some (.r (.r (.l (.l p2))))), none, (.more (.idxV (nat_lit 4) (nat_lit 1) false (.t (.r (.r (.r (.r p1))))) (.t (.l (.l (.l (.l p2)))))))⟩, ⟨(some (.r (.r p1))), none, (.move (.t (.l (.r (.l (.l p2))))))⟩, ⟨(some (.l (.l p2))), none, (.move (.t (.r (.r (.l (.l p2))))))⟩] [(.r (.r p1)), (.l (.l p2))] r6x12 := by
  intro call ρ st K
  kernel_rfl
noncomputable def r6x13 : RF := fun call ρ st K => (fun n0 mk => fad (nat_lit 4) (ρ (.l (.l p1))) (fun v => (fun v st => (fun v0 mk st => dw2 n0 mk (nat_lit 2) (nat_lit 1) v0 (fun q => ld1 st v0 (fun v => (q) v st)) (fun v1 mk st => (fun v st => (fun v2 mk st => fad (nat_lit 4) (ρ (.l (.l p1))) (fun v => (fun v st => (fun v3 mk st => dw2 n0 mk (nat_lit 16) (nat_lit 8) v3 (fun q => ld1 st v3 (fun v => (q) v st)) (fun v4 mk st => (fun v st => (fun v5 mk st => ixs (nat_lit 1) v4 v5 (fun v => (fun v st => (fun v6 mk st => dw2 n0 mk (nat_lit 128) (nat_lit 120) v6 (fun q => ld1 st v6 (fun v => (q) v st)) (fun v7 mk st => (fun v st => (fun v8 mk st => dw1 mk (nat_lit 512) (fun q => h_op3_buildS (nat_lit 1) (nat_lit 1) [(.int .u64 (.ofNat (nat_lit 0)))] [((nat_lit 0), (nat_lit 1), (.c v8))] call ρ st (q)) (fun v9 mk st => dw5 n0 mk (nat_lit 1024) (nat_lit 1016) st (.more (.more (.append (nat_lit 1) (nat_lit 8) (.c v7) (.c v9)))) ρ (fun st q => h_op3_append (nat_lit 1) (nat_lit 8) (.c v7) (.c v9) call ρ st (q)) (fun v10 mk st => ixs (nat_lit 1) v1 v2 (fun v => (fun v st => (fun v11 mk st => dw4 n0 mk (nat_lit 4096) (nat_lit 4095) v11 (fun q => sto st (nat_lit 1) v11 v10 ((q) undefV)) (fun _ mk st => K [] st)) v mk st) v st)))) v mk st) (ρ (.l (.l p2))) st)) v mk st) v st)) v mk st) (ρ (.r (.r p1))) st)) v mk st) v st)) v mk st) (ρ (.r (.r p1))) st)) v mk st) v st)) st.next mk0
theorem h6x13 : DrwOk [⟨(some (.l (.l (.r (.l p2))))), none, (.fa (nat_lit 4) (.t (.l (.l p1)))), (nat_lit 0), (nat_lit 1), (nat_lit 0)⟩, ⟨(some (.r (.l (.r (.l p2))))), none, (.load1 (.t (.l (.l (.r (.l p2)))))), (nat_lit 2), (nat_lit 2), (nat_lit 1)⟩, ⟨(some (.l (.r (.r (.l p2))))), none, (.move (.t (.r (.r p1)))), (nat_lit 0), (nat_lit 4), (nat_lit 0)⟩, ⟨(some (.r (.r (.r (.l p2))))), none, (.fa (nat_lit 4) (.t (.l (.l p1)))), (nat_lit 0), (nat_lit 8), (nat_lit 0)⟩, ⟨(some (.l (.l (.l (.r p2))))), none, (.load1 (.t (.r (.r (.r (.l p2)))))), (nat_lit 2), (nat_lit 16), (nat_lit 8)⟩, ⟨(some (.r (.l (.l (.r p2))))), none, (.move (.t (.r (.r p1)))), (nat_lit 0), (nat_lit 32), (nat_lit 0)⟩, ⟨(some (.l (.r (.l (.r p2))))), none, (.idxS (nat_lit 1) (.t (.l (.l (.l (.r p2))))) (.t (.r (.l (.l (.r p2)))))), (nat_lit 0), (nat_lit 64), (nat_lit 56)⟩, ⟨(some (.r (.r (.l (.r p2))))), none, (.load1 (.t (.l (.r (.l (.r p2)))))), (nat_lit 2), (nat_lit 128), (nat_lit 120)⟩, ⟨(some (.l (.l (.r (.r p2))))), none, (.move (.t (.l (.l p2)))), (nat_lit 0), (nat_lit 256), (nat_lit 0)⟩, ⟨(some (.r (.l (.r (.r p2))))), none, (.more (.more (.buildS (nat_lit 1) (nat_lit 1) [(.int .u64 (.ofNat (nat_lit 0)))] [((nat_lit 0), (nat_lit 1), (.t (.l (.l (.r (.r p2))))))]))), (nat_lit 1), (nat_lit 512), (nat_lit 256)⟩, ⟨(some (.l (.r (.r (.r p2))))), none, (.more (.more (.append (nat_lit 1) (nat_lit 8) (.t (.r (.r (.l (.r p2))))) (.t (.r (.l (.r (.r p2)))))))), (nat_lit 5), (nat_lit 1024), (nat_lit 1016)⟩, ⟨(some (.r (.r (.r (.r p2))))), none, (.idxS (nat_lit 1) (.t (.r (.l (.r (.l p2))))) (.t (.l (.r (.r (.l p2)))))), (nat_lit 0), (nat_lit 2048), (nat_lit 2047)⟩, ⟨none, none, (.more (.store (nat_lit 1) (.t (.r (.r (.r (.r p2))))) (.t (.l (.r (.r (.r p2))))))), (nat_lit 4), (nat_lit 4096), (nat_lit 4095)⟩] [] r6x13 := by
  intro call ρ st K
  kernel_rfl
noncomputable def r6x14 : RF := fun call ρ st K => binK .add (ρ (.l (.l (.l (.l p2))))) (i6 1) (fun v => (fun v0 st => K [v0] st) v st)
theorem h6x14 : RegOk [⟨(some (.l (.l (.l (.l (.l p1)))))), none, (.bin .add (.t (.l (.l (.l (.l p2))))) (.c (.sc (.int .i64 (.ofNat (nat_lit 1))))))⟩, ⟨(some (.l (.l (.l (.l p2))))), none, (.move (.t (.l (.l (.l (.l (.l p1)))))))⟩] [(.l (.l (.l (.l p2))))] r6x14 := by
  intro call ρ st K
  kernel_rfl
noncomputable def r6x15 : RF := fun call ρ st K => binK .add (ρ (.r (.r (.r p2)))) (i6 1) (fun v => (fun v0 st => K [v0] st) v st)
theorem h6x15 : RegOk [⟨(some (.r (.l (.l (.l (.l p1)))))), none, (.bin .add (.t (.r (.r (.r p2)))) (.c (.sc (.int .i64 (.ofNat (nat_lit 1))))))⟩, ⟨(some (.r (.r (.r p2)))), none, (.move (.t (.r (.l (.l (.l (.l p1)))))))⟩] [(.r (.r (.r p2)))] r6x15 := by
  intro call ρ st K
  kernel_rfl
noncomputable def r6x16 : RF := fun call ρ st K => h_op3_buildS (nat_lit 1) (nat_lit 1) [(.int .i64 (.ofNat (nat_lit 0)))] [((nat_lit 0), (nat_lit 1), (.c (i6 32)))] call ρ st (fun v0 st => call (nat_lit 20) [v0] st (fun v1 st => call (nat_lit 21) [(i6 0)] st (fun v2 st => call (nat_lit 22) [(i6 34)] st (fun v3 st => call (nat_lit 22) [(i6 11)] st (fun v4 st => h_op3_buildS (nat_lit 3) (nat_lit 2) [(.int .u8 (.ofNat (nat_lit 0))), (.int .i64 (.ofNat (nat_lit 0))), (.int .u8 (.ofNat (nat_lit 0))), (.int .i64 (.ofNat (nat_lit 0))), (.int .u8 (.ofNat (nat_lit 0))), (.int .i64 (.ofNat (nat_lit 0)))] [((nat_lit 0), (nat_lit 2), (.c v2)), ((nat_lit 2), (nat_lit 2), (.c v3)), ((nat_lit 4), (nat_lit 2), (.c v4))] call ρ st (fun v5 st => h_op3_append (nat_lit 2) (nat_lit 16) (.c v1) (.c v5) call ρ st (fun v6 st => K [v6] st)))))))
theorem h6x16 : RegOk [⟨(some (.l (.r (.l (.l (.l p1)))))), none, (.more (.more (.buildS (nat_lit 1) (nat_lit 1) [(.int .i64 (.ofNat (nat_lit 0)))] [((nat_lit 0), (nat_lit 1), (.c (.sc (.int .i64 (.ofNat (nat_lit 32))))))])))⟩, ⟨(some (.r (.r (.l (.l (.l p1)))))), none, (.call (nat_lit 20) [(.t (.l (.r (.l (.l (.l p1))))))])⟩, ⟨(some (.l (.l (.r (.l (.l p1)))))), none, (.call (nat_lit 21) [(.c (.sc (.int .i64 (.ofNat (nat_lit 0)))))])⟩, ⟨(some (.r (.l (.r (.l (.l p1)))))), none, (.call (nat_lit 22) [(.c (.sc (.int .i64 (.ofNat (nat_lit 34)))))])⟩, ⟨(some (.l (.r (.r (.l (.l p1)))))), none, (.call (nat_lit 22) [(.c (.sc (.int .i64 (.ofNat (nat_lit 11)))))])⟩, ⟨(some (.r (.r (.r (.l (.l p1)))))), none, (.more (.more (.buildS (nat_lit 3) (nat_lit 2) [(.int .u8 (.ofNat (nat_lit 0))), (.int .i64 (.ofNat (nat_lit 0))), (.int .u8 (.ofNat (nat_lit 0))), (.int .i64 (.ofNat (nat_lit 0))), (.int .u8 (.ofNat (nat_lit 0))), (.int .i64 (.ofNat (nat_lit 0)))] [((nat_lit 0), (nat_lit 2), (.t (.l (.l (.r (.l (.l p1))))))), ((nat_lit 2), (nat_lit 2), (.t (.r (.l (.r (.l (.l p1))))))), ((nat_lit 4), (nat_lit 2), (.t (.l (.r (.r (.l (.l p1)))))))])))⟩, ⟨(some (.l (.l (.l (.r (.l p1)))))), none, (.more (.more (.append (nat_lit 2) (nat_lit 16) (.t (.r (.r (.l (.l (.l p1)))))) (.t (.r (.r (.r (.l (.l p1)))))))))⟩, ⟨(some (.r (.l p2))), none, (.move (.t (.l (.l (.l (.r (.l p1)))))))⟩] [(.r (.l p2))] r6x16 := by
  intro call ρ st K
  kernel_rfl
noncomputable def r6x17 : RF := fun call ρ st K => h_op3_buildS (nat_lit 1) (nat_lit 1) [.nils] [((nat_lit 0), (nat_lit 1), (.c (ρ (.r (.l p2)))))] call ρ st (fun v0 st => h_op3_buildS (nat_lit 4) (nat_lit 1) [(.int .i64 (.ofNat (nat_lit 0))), (.int .i64 (.ofNat (nat_lit 0))), (.int .i64 (.ofNat (nat_lit 0))), (.int .i64 (.ofNat (nat_lit 0)))] [((nat_lit 0), (nat_lit 1), (.c (i6 35))), ((nat_lit 1), (nat_lit 1), (.c (i6 36))), ((nat_lit 2), (nat_lit 1), (.c (i6 37))), ((nat_lit 3), (nat_lit 1), (.c (i6 38)))] call ρ st (fun v1 st => call (nat_lit 20) [v1] st (fun v2 st => h_op3_buildS (nat_lit 1) (nat_lit 1) [.nils] [((nat_lit 0), (nat_lit 1), (.c v2))] call ρ st (fun v3 st => h_op3_build [.nils, .nils] [((nat_lit 0), (nat_lit 1), (.c v0)), ((nat_lit 1), (nat_lit 1), (.c v3))] call ρ st (fun v4 st => h_op3_buildS (nat_lit 1) (nat_lit 2) [.nils, .nils] [((nat_lit 0), (nat_lit 2), (.c v4))] call ρ st (fun v5 st => fad (nat_lit 6) (ρ (.l (.l p1))) (fun v => (fun v6 st => sto st (nat_lit 1) v6 v5 ((fun _ st => K [] st) undefV)) v st)))))))
theorem h6x17 : RegOk [⟨(some (.r (.l (.l (.r (.l p1)))))), none, (.move (.t (.r (.l p2))))⟩, ⟨(some (.l (.r (.l (.r (.l p1)))))), none, (.more (.more (.buildS (nat_lit 1) (nat_lit 1) [.nils] [((nat_lit 0), (nat_lit 1), (.t (.r (.l (.l (.r (.l p1)))))))])))⟩, ⟨(some (.r (.r (.l (.r (.l p1)))))), none, (.more (.more (.buildS (nat_lit 4) (nat_lit 1) [(.int .i64 (.ofNat (nat_lit 0))), (.int .i64 (.ofNat (nat_lit 0))), (.int .i64 (.ofNat (nat_lit 0))), (.int .i64 (.ofNat (nat_lit 0)))] [((nat_lit 0), (nat_lit 1), (.c (.sc (.int .i64 (.ofNat (nat_lit 35)))))), ((nat_lit 1), (nat_lit 1), (.c (.sc (.int .i64 (.ofNat (nat_lit 36)))))), ((nat_lit 2), (nat_lit 1), (.c (.sc (.int .i64 (.ofNat (nat_lit 37)))))), ((nat_lit 3), (nat_lit 1), (.c (.sc (.int .i64 (.ofNat (nat_lit 38))))))])))⟩, ⟨(some (.l (.l (.r (.r (.l p1)))))), none, (.call (nat_lit 20) [(.t (.r (.r (.l (.r (.l p1))))))])⟩, ⟨(some (.r (.l (.r (.r (.l p1)))))), none, (.more (.more (.buildS (nat_lit 1) (nat_lit 1) [.nils] [((nat_lit 0), (nat_lit 1), (.t (.l (.l (.r (.r (.l p1)))))))])))⟩, ⟨(some (.l (.r (.r (.r (.l p1)))))), none, (.more (.more (.build [.nils, .nils] [((nat_lit 0), (nat_lit 1), (.t (.l (.r (.l (.r (.l p1))))))), ((nat_lit 1), (nat_lit 1), (.t (.r (.l (.r (.r (.l p1)))))))])))⟩, ⟨(some (.r (.r (.r (.r (.l p1)))))), none, (.more (.more (.buildS (nat_lit 1) (nat_lit 2) [.nils, .nils] [((nat_lit 0), (nat_lit 2), (.t (.l (.r (.r (.r (.l p1)))))))])))⟩, ⟨(some (.l (.l (.l (.l (.r p1)))))), none, (.fa (nat_lit 6) (.t (.l (.l p1))))⟩, ⟨none, none, (.more (.store (nat_lit 1) (.t (.l (.l (.l (.l (.r p1)))))) (.t (.r (.r (.r (.r (.l p1))))))))⟩] [] r6x17 := by
  intro call ρ st K
  kernel_rfl
noncomputable def r6x18 : RF := fun call ρ st K => call (nat_lit 16) [] st (fun v0 st => K [v0, (i6 0)] st)
theorem h6x18 : RegOk [⟨(some (.r (.l (.l (.l (.r p1)))))), none, (.call (nat_lit 16) [])⟩, ⟨(some (.l (.r (.l (.l (.r p1)))))), none, (.move (.c (.sc (.int .i64 (.ofNat (nat_lit 0))))))⟩] [(.r (.l (.l (.l (.r p1))))), (.l (.r (.l (.l (.r p1)))))] r6x18 := by
  intro call ρ st K
  kernel_rfl
noncomputable def r6x19 : RF := fun call ρ st K => binK .lss (ρ (.l (.r (.l (.l (.r p1)))))) (i6 8) (fun v => (fun v0 st => K [v0] st) v st)
theorem h6x19 : RegOk [⟨(some (.r (.r (.l (.l (.r p1)))))), none, (.bin .lss (.t (.l (.r (.l (.l (.r p1)))))) (.c (.sc (.int .i64 (.ofNat (nat_lit 8))))))⟩] [(.r (.r (.l (.l (.r p1)))))] r6x19 := by
  intro call ρ st K
  kernel_rfl
noncomputable def r6x20 : RF := fun call ρ st K => (fun v0 => h_op2_idxV (nat_lit 8) (nat_lit 1) false (.c (ρ (.r (.l (.l (.l (.r p1))))))) (.c (ρ (.l (.r (.l (.l (.r p1))))))) call ρ st (fun v1 st => K [v0, v1] st)) (ρ (.l (.r (.l (.l (.r p1))))))
theorem h6x20 : RegOk [⟨(some (.l (.l (.r (.l (.r p1)))))), none, (.move (.t (.l (.r (.l (.l (.r p1)))))))⟩, ⟨(some (.r (.l (.r (.l (.r p1)))))), none, (.more (.idxV (nat_lit 8) (nat_lit 1) false (.t (.r (.l (.l (.l (.r p1)))))) (.t (.l (.r (.l (.l (.r p1))))))))⟩, ⟨(some (.l (.r p2))), none, (.move (.t (.l (.l (.r (.l (.r p1)))))))⟩, ⟨(some (.r (.r p2))), none, (.move (.t (.r (.l (.r (.l (.r p1)))))))⟩] [(.l (.r p2)), (.r (.r p2))] r6x20 := by
  intro call ρ st K
  kernel_rfl
noncomputable def r6x21 : RF := fun call ρ st K => h_op3_buildS (nat_lit 1) (nat_lit 1) [(.int .i64 (.ofNat (nat_lit 0)))] [((nat_lit 0), (nat_lit 1), (.c (ρ (.r (.r p2)))))] call ρ st (fun v0 st => call (nat_lit 20) [v0] st (fun v1 st => call (nat_lit 21) [(i6 1)] st (fun v2 st => h_op3_buildS (nat_lit 1) (nat_lit 2) [(.int .u8 (.ofNat (nat_lit 0))), (.int .i64 (.ofNat (nat_lit 0)))] [((nat_lit 0), (nat_lit 2), (.c v2))] call ρ st (fun v3 st => binK .add (i6 42) (ρ (.l (.r p2))) (fun v => (fun v4 st => call (nat_lit 22) [v4] st (fun v5 st => h_op3_build [.nils, .nils, (.int .u8 (.ofNat (nat_lit 0))), (.int .i64 (.ofNat (nat_lit 0)))] [((nat_lit 0), (nat_lit 1), (.c v1)), ((nat_lit 1), (nat_lit 1), (.c v3)), ((nat_lit 2), (nat_lit 2), (.c v5))] call ρ st (fun v6 st => alc st [.nils, .nils, (.int .u8 (.ofNat (nat_lit 0))), (.int .i64 (.ofNat (nat_lit 0)))] (fun v7 st => sto st (nat_lit 4) v7 v6 ((fun _ st => K [v7] st) undefV))))) v st)))))
theorem h6x21 : RegOk [⟨(some (.l (.r (.r (.l (.r p1)))))), none, (.move (.t (.r (.r p2))))⟩, ⟨(some (.r (.r (.r (.l (.r p1)))))), none, (.more (.more (.buildS (nat_lit 1) (nat_lit 1) [(.int .i64 (.ofNat (nat_lit 0)))] [((nat_lit 0), (nat_lit 1), (.t (.l (.r (.r (.l (.r p1)))))))])))⟩, ⟨(some (.l (.l (.l (.r (.r p1)))))), none, (.call (nat_lit 20) [(.t (.r (.r (.r (.l (.r p1))))))])⟩, ⟨(some (.r (.l (.l (.r (.r p1)))))), none, (.call (nat_lit 21) [(.c (.sc (.int .i64 (.ofNat (nat_lit 1)))))])⟩, ⟨(some (.l (.r (.l (.r (.r p1)))))), none, (.more (.more (.buildS (nat_lit 1) (nat_lit 2) [(.int .u8 (.ofNat (nat_lit 0))), (.int .i64 (.ofNat (nat_lit 0)))] [((nat_lit 0), (nat_lit 2), (.t (.r (.l (.l (.r (.r p1)))))))])))⟩, ⟨(some (.r (.r (.l (.r (.r p1)))))), none, (.move (.t (.l (.r p2))))⟩, ⟨(some (.l (.l (.r (.r (.r p1)))))), none, (.bin .add (.c (.sc (.int .i64 (.ofNat (nat_lit 42))))) (.t (.r (.r (.l (.r (.r p1)))))))⟩, ⟨(some (.r (.l (.r (.r (.r p1)))))), none, (.call (nat_lit 22) [(.t (.l (.l (.r (.r (.r p1))))))])⟩, ⟨(some (.l (.r (.r (.r (.r p1)))))), none, (.more (.more (.build [.nils, .nils, (.int .u8 (.ofNat (nat_lit 0))), (.int .i64 (.ofNat (nat_lit 0)))] [((nat_lit 0), (nat_lit 1), (.t (.l (.l (.l (.r (.r p1))))))), ((nat_lit 1), (nat_lit 1), (.t (.l (.r (.l (.r (.r p1))))))), ((nat_lit 2), (nat_lit 2), (.t (.r (.l (.r (.r (.r p1)))))))])))⟩, ⟨(some (.l (.l (.l p1)))), none, (.more (.alloc [.nils, .nils, (.int .u8 (.ofNat (nat_lit 0))), (.int .i64 (.ofNat (nat_lit 0)))]))⟩, ⟨none, none, (.more (.store (nat_lit 4) (.t (.l (.l (.l p1)))) (.t (.l (.r (.r (.r (.r p1))))))))⟩] [(.l (.l (.l p1)))] r6x21 := by
  intro call ρ st K
  kernel_rfl
noncomputable def r6x22 : RF := fun call ρ st K => K [(ρ (.r (.r p2)))] st
theorem h6x22 : RegOk [⟨(some (.r (.r (.r (.r (.r p1)))))), none, (.move (.t (.r (.r p2))))⟩] [(.r (.r (.r (.r (.r p1)))))] r6x22 := by
  intro call ρ st K
  kernel_rfl
noncomputable def r6x23 : RF := fun call ρ st K => binK .eql (ρ (.r (.r (.r (.r (.r p1)))))) (i6 0) (fun v => (fun v0 st => K [v0] st) v st)
theorem h6x23 : RegOk [⟨(some (.r (.l (.l (.l (.l p2)))))), none, (.bin .eql (.t (.r (.r (.r (.r (.r p1)))))) (.c (.sc (.int .i64 (.ofNat (nat_lit 0))))))⟩, ⟨(some (.l (.l (.l (.l (.l p2)))))), none, (.move (.t (.r (.l (.l (.l (.l p2)))))))⟩] [(.l (.l (.l (.l (.l p2)))))] r6x23 := by
  intro call ρ st K
  kernel_rfl
noncomputable def r6x24 : RF := fun call ρ st K => h_op3_buildS (nat_lit 3) (nat_lit 1) [(.int .i64 (.ofNat (nat_lit 0))), (.int .i64 (.ofNat (nat_lit 0))), (.int .i64 (.ofNat (nat_lit 0)))] [((nat_lit 0), (nat_lit 1), (.c (i6 0))), ((nat_lit 1), (nat_lit 1), (.c (i6 21))), ((nat_lit 2), (nat_lit 1), (.c (i6 22)))] call ρ st (fun v0 st => call (nat_lit 20) [v0] st (fun v1 st => fad (nat_lit 0) (ρ (.l (.l (.l p1)))) (fun v => (fun v2 st => sto st (nat_lit 1) v2 v1 ((fun _ st => K [] st) undefV)) v st)))
theorem h6x24 : RegOk [⟨(some (.l (.r (.l (.l (.l p2)))))), none, (.more (.more (.buildS (nat_lit 3) (nat_lit 1) [(.int .i64 (.ofNat (nat_lit 0))), (.int .i64 (.ofNat (nat_lit 0))), (.int .i64 (.ofNat (nat_lit 0)))] [((nat_lit 0), (nat_lit 1), (.c (.sc (.int .i64 (.ofNat (nat_lit 0)))))), ((nat_lit 1), (nat_lit 1), (.c (.sc (.int .i64 (.ofNat (nat_lit 21)))))), ((nat_lit 2), (nat_lit 1), (.c (.sc (.int .i64 (.ofNat (nat_lit 22))))))])))⟩, ⟨(some (.r (.r (.l (.l (.l p2)))))), none, (.call (nat_lit 20) [(.t (.l (.r (.l (.l (.l p2))))))])⟩, ⟨(some (.l (.l (.r (.l (.l p2)))))), none, (.fa (nat_lit 0) (.t (.l (.l (.l p1)))))⟩, ⟨none, none, (.more (.store (nat_lit 1) (.t (.l (.l (.r (.l (.l p2)))))) (.t (.r (.r (.l (.l (.l p2))))))))⟩] [] r6x24 := by
  intro call ρ st K
  kernel_rfl
noncomputable def r6x25 : RF := fun call ρ st K => call (nat_lit 21) [(i6 0)] st (fun v0 st => call (nat_lit 21) [(i6 2)] st (fun v1 st => call (nat_lit 21) [(i6 3)] st (fun v2 st => h_op3_buildS (nat_lit 3) (nat_lit 2) [(.int .u8 (.ofNat (nat_lit 0))), (.int .i64 (.ofNat (nat_lit 0))), (.int .u8 (.ofNat (nat_lit 0))), (.int .i64 (.ofNat (nat_lit 0))), (.int .u8 (.ofNat (nat_lit 0))), (.int .i64 (.ofNat (nat_lit 0)))] [((nat_lit 0), (nat_lit 2), (.c v0)), ((nat_lit 2), (nat_lit 2), (.c v1)), ((nat_lit 4), (nat_lit 2), (.c v2))] call ρ st (fun v3 st => fad (nat_lit 1) (ρ (.l (.l (.l p1)))) (fun v => (fun v4 st => sto st (nat_lit 1) v4 v3 ((fun _ st => K [] st) undefV)) v st)))))
theorem h6x25 : RegOk [⟨(some (.r (.l (.r (.l (.l p2)))))), none, (.call (nat_lit 21) [(.c (.sc (.int .i64 (.ofNat (nat_lit 0)))))])⟩, ⟨(some (.l (.r (.r (.l (.l p2)))))), none, (.call (nat_lit 21) [(.c (.sc (.int .i64 (.ofNat (nat_lit 2)))))])⟩, ⟨(some (.r (.r (.r (.l (.l p2)))))), none, (.call (nat_lit 21) [(.c (.sc (.int .i64 (.ofNat (nat_lit 3)))))])⟩, ⟨(some (.l (.l (.l (.r (.l p2)))))), none, (.more (.more (.buildS (nat_lit 3) (nat_lit 2) [(.int .u8 (.ofNat (nat_lit 0))), (.int .i64 (.ofNat (nat_lit 0))), (.int .u8 (.ofNat (nat_lit 0))), (.int .i64 (.ofNat (nat_lit 0))), (.int .u8 (.ofNat (nat_lit 0))), (.int .i64 (.ofNat (nat_lit 0)))] [((nat_lit 0), (nat_lit 2), (.t (.r (.l (.r (.l (.l p2))))))), ((nat_lit 2), (nat_lit 2), (.t (.l (.r (.r (.l (.l p2))))))), ((nat_lit 4), (nat_lit 2), (.t (.r (.r (.r (.l (.l p2)))))))])))⟩, ⟨(some (.r (.l (.l (.r (.l p2)))))), none, (.fa (nat_lit 1) (.t (.l (.l (.l p1)))))⟩, ⟨none, none, (.more (.store (nat_lit 1) (.t (.r (.l (.l (.r (.l p2)))))) (.t (.l (.l (.l (.r (.l p2))))))))⟩] [] r6x25 := by
  intro call ρ st K
  kernel_rfl
noncomputable def r6x26 : RF := fun call ρ st K => binK .eql (ρ (.r (.r (.r (.r (.r p1)))))) (i6 40) (fun v => (fun v0 st => K [v0] st) v st)
theorem h6x26 : RegOk [⟨(some (.r (.r (.l (.r (.l p2)))))), none, (.bin .eql (.t (.r (.r (.r (.r (.r p1)))))) (.c (.sc (.int .i64 (.ofNat (nat_lit 40))))))⟩, ⟨(some (.l (.r (.l (.r (.l p2)))))), none, (.move (.t (.r (.r (.l (.r (.l p2)))))))⟩] [(.l (.r (.l (.r (.l p2)))))] r6x26 := by
  intro call ρ st K
  kernel_rfl
noncomputable def r6x27 : RF := fun call ρ st K => call (nat_lit 21) [(i6 0)] st (fun v0 st => h_op3_buildS (nat_lit 1) (nat_lit 2) [(.int .u8 (.ofNat (nat_lit 0))), (.int .i64 (.ofNat (nat_lit 0)))] [((nat_lit 0), (nat_lit 2), (.c v0))] call ρ st (fun v1 st => fad (nat_lit 1) (ρ (.l (.l (.l p1)))) (fun v => (fun v2 st => sto st (nat_lit 1) v2 v1 ((fun _ st => K [] st) undefV)) v st)))
theorem h6x27 : RegOk [⟨(some (.l (.l (.r (.r (.l p2)))))), none, (.call (nat_lit 21) [(.c (.sc (.int .i64 (.ofNat (nat_lit 0)))))])⟩, ⟨(some (.r (.l (.r (.r (.l p2)))))), none, (.more (.more (.buildS (nat_lit 1) (nat_lit 2) [(.int .u8 (.ofNat (nat_lit 0))), (.int .i64 (.ofNat (nat_lit 0)))] [((nat_lit 0), (nat_lit 2), (.t (.l (.l (.r (.r (.l p2)))))))])))⟩, ⟨(some (.l (.r (.r (.r (.l p2)))))), none, (.fa (nat_lit 1) (.t (.l (.l (.l p1)))))⟩, ⟨none, none, (.more (.store (nat_lit 1) (.t (.l (.r (.r (.r (.l p2)))))) (.t (.r (.l (.r (.r (.l p2))))))))⟩] [] r6x27 := by
  intro call ρ st K
  kernel_rfl
noncomputable def r6x28 : RF := fun call ρ st K => fad (nat_lit 7) (ρ (.l (.l p1))) (fun v => (fun v0 st => ld1 st v0 (fun v => (fun v1 st => ldN st (nat_lit 4) (ρ (.l (.l (.l p1)))) (fun v => (fun v2 st => h_op3_buildS (nat_lit 1) (nat_lit 4) [.nils, .nils, (.int .u8 (.ofNat (nat_lit 0))), (.int .i64 (.ofNat (nat_lit 0)))] [((nat_lit 0), (nat_lit 4), (.c v2))] call ρ st (fun v3 st => h_op3_append (nat_lit 4) (nat_lit 64) (.c v1) (.c v3) call ρ st (fun v4 st => fad (nat_lit 7) (ρ (.l (.l p1))) (fun v => (fun v5 st => sto st (nat_lit 1) v5 v4 ((fun _ st => K [] st) undefV)) v st)))) v st)) v st)) v st)
theorem h6x28 : RegOk [⟨(some (.r (.r (.r (.r (.l p2)))))), none, (.fa (nat_lit 7) (.t (.l (.l p1))))⟩, ⟨(some (.l (.l (.l (.l (.r p2)))))), none, (.load1 (.t (.r (.r (.r (.r (.l p2)))))))⟩, ⟨(some (.r (.l (.l (.l (.r p2)))))), none, (.loadN (nat_lit 4) (.t (.l (.l (.l p1)))))⟩, ⟨(some (.l (.r (.l (.l (.r p2)))))), none, (.more (.more (.buildS (nat_lit 1) (nat_lit 4) [.nils, .nils, (.int .u8 (.ofNat (nat_lit 0))), (.int .i64 (.ofNat (nat_lit 0)))] [((nat_lit 0), (nat_lit 4), (.t (.r (.l (.l (.l (.r p2)))))))])))⟩, ⟨(some (.r (.r (.l (.l (.r p2)))))), none, (.more (.more (.append (nat_lit 4) (nat_lit 64) (.t (.l (.l (.l (.l (.r p2)))))) (.t (.l (.r (.l (.l (.r p2)))))))))⟩, ⟨(some (.l (.l (.r (.l (.r p2)))))), none, (.fa (nat_lit 7) (.t (.l (.l p1))))⟩, ⟨none, none, (.more (.store (nat_lit 1) (.t (.l (.l (.r (.l (.r p2)))))) (.t (.r (.r (.l (.l (.r p2))))))))⟩] [] r6x28 := by
  intro call ρ st K
  kernel_rfl
noncomputable def r6x29 : RF := fun call ρ st K => binK .add (ρ (.l (.r (.l (.l (.r p1)))))) (i6 1) (fun v => (fun v0 st => K [v0] st) v st)
theorem h6x29 : RegOk [⟨(some (.r (.l (.r (.l (.r p2)))))), none, (.bin .add (.t (.l (.r (.l (.l (.r p1)))))) (.c (.sc (.int .i64 (.ofNat (nat_lit 1))))))⟩, ⟨(some (.l (.r (.l (.l (.r p1)))))), none, (.move (.t (.r (.l (.r (.l (.r p2)))))))⟩] [(.l (.r (.l (.l (.r p1)))))] r6x29 := by
  intro call ρ st K
  kernel_rfl
noncomputable def r6x30 : RF := fun call ρ st K => ldN st (nat_lit 8) (ρ (.l (.l p1))) (fun v => (fun v0 st => sto st (nat_lit 8) (ρ (.r p1)) v0 ((fun _ st => K [(i6 0)] st) undefV)) v st)
theorem h6x30 : RegOk [⟨(some (.l (.r (.r (.l (.r p2)))))), none, (.loadN (nat_lit 8) (.t (.l (.l p1))))⟩, ⟨none, none, (.more (.store (nat_lit 8) (.t (.r p1)) (.t (.l (.r (.r (.l (.r p2))))))))⟩, ⟨(some (.l p2)), none, (.move (.c (.sc (.int .i64 (.ofNat (nat_lit 0))))))⟩] [(.l p2)] r6x30 := by
  intro call ρ st K
  kernel_rfl
/- attestor/trace.System -/
noncomputable def cf6 : HF := ⟨(.seq (.reg _ _ _ h6x0)
 (.seq (.seq (.reg _ _ _ h6x1)
 (.seq (.reg _ _ _ h6x2)
 (.cond (.t (.r (.l (.r p1)))) (.seq (.reg _ _ _ h6x3)
 .ret)
 .skip)))
 (.seq (.reg _ _ _ h6x4)
 (.seq (.reg _ _ _ h6x5)
 (.seq (.seq (.reg _ _ _ h6x6)
 (.block (nat_lit 0) (.loop (.seq (.reg _ _ _ h6x7)
 (.seq (.cond (.t (.l (.l (.l (.l p1))))) .skip
 (.exit (nat_lit 0)))
 (.seq (.block (nat_lit 1) (.seq (.reg _ _ _ h6x8)
 (.seq (.reg _ _ _ h6x9)
 (.seq (.drw _ _ _ h6x10)
 (.block (nat_lit 2) (.loop (.seq (.reg _ _ _ h6x11)
 (.seq (.cond (.t (.r (.l (.l (.l p2))))) .skip
 (.exit (nat_lit 2)))
 (.seq (.block (nat_lit 3) (.seq (.reg _ _ _ h6x12)
 (.drw _ _ _ h6x13)))
 (.reg _ _ _ h6x14))))))))))
 (.reg _ _ _ h6x15)))))))
 (.seq (.reg _ _ _ h6x16)
 (.seq (.reg _ _ _ h6x17)
 (.seq (.seq (.reg _ _ _ h6x18)
 (.block (nat_lit 4) (.loop (.seq (.reg _ _ _ h6x19)
 (.seq (.cond (.t (.r (.r (.l (.l (.r p1)))))) .skip
 (.exit (nat_lit 4)))
 (.seq (.block (nat_lit 5) (.seq (.reg _ _ _ h6x20)
 (.seq (.reg _ _ _ h6x21)
 (.seq (.seq (.reg _ _ _ h6x22)
 (.block (nat_lit 6) (.seq (.reg _ _ _ h6x23)
 (.cond (.t (.l (.l (.l (.l (.l p2)))))) (.seq (.reg _ _ _ h6x24)
 (.reg _ _ _ h6x25))
 (.seq (.reg _ _ _ h6x26)
 (.cond (.t (.l (.r (.l (.r (.l p2)))))) (.reg _ _ _ h6x27)
 .skip))))))
 (.reg _ _ _ h6x28)))))
 (.reg _ _ _ h6x29)))))))
 (.seq (.reg _ _ _ h6x30)
 .ret))))))))), [(.cellN (nat_lit 8) (.r p1)), (.tmp (.l p2))], [p0, p1], [(.r (.l (.l p1))), (.l (.r (.l p1))), (.r (.r (.l p1))), (.l (.l (.r p1))), (.l (.r (.r p1))), (.r (.r (.r p1))), (.l (.l (.l p2))), (.r (.l (.l p2))), (.l (.r (.l p2))), (.r (.r (.l p2))), (.l (.l (.r p2))), (.r (.l (.r p2))), (.r (.l (.l (.l p1)))), (.l (.r (.l (.l p1)))), (.r (.r (.l (.l p1)))), (.l (.l (.r (.l p1)))), (.r (.l (.r (.l p1)))), (.l (.r (.r (.l p1)))), (.r (.r (.r (.l p1)))), (.l (.l (.l (.r p1)))), (.r (.l (.l (.r p1)))), (.l (.r (.l (.r p1)))), (.r (.r (.l (.r p1)))), (.l (.l (.r (.r p1)))), (.r (.l (.r (.r p1)))), (.l (.r (.r (.r p1)))), (.l (.r (.l (.l p2)))), (.r (.r (.l (.l p2)))), (.l (.l (.r (.l p2)))), (.r (.l (.r (.l p2)))), (.l (.r (.r (.l p2)))), (.r (.r (.r (.l p2)))), (.l (.l (.l (.r p2)))), (.r (.l (.l (.r p2)))), (.l (.r (.l (.r p2)))), (.r (.r (.l (.r p2)))), (.l (.l (.r (.r p2)))), (.r (.l (.r (.r p2)))), (.l (.r (.r (.r p2)))), (.r (.r (.r (.r p2)))), (.l (.l (.l (.l (.l p1))))), (.r (.l (.l (.l (.l p1))))), (.l (.r (.l (.l (.l p1))))), (.r (.r (.l (.l (.l p1))))), (.l (.l (.r (.l (.l p1))))), (.r (.l (.r (.l (.l p1))))), (.l (.r (.r (.l (.l p1))))), (.r (.r (.r (.l (.l p1))))), (.l (.l (.l (.r (.l p1))))), (.r (.l (.l (.r (.l p1))))), (.l (.r (.l (.r (.l p1))))), (.r (.r (.l (.r (.l p1))))), (.l (.l (.r (.r (.l p1))))), (.r (.l (.r (.r (.l p1))))), (.l (.r (.r (.r (.l p1))))), (.r (.r (.r (.r (.l p1))))), (.l (.l (.l (.l (.r p1))))), (.l (.l (.r (.l (.r p1))))), (.r (.l (.r (.l (.r p1))))), (.l (.r (.r (.l (.r p1))))), (.r (.r (.r (.l (.r p1))))), (.l (.l (.l (.r (.r p1))))), (.r (.l (.l (.r (.r p1))))), (.l (.r (.l (.r (.r p1))))), (.r (.r (.l (.r (.r p1))))), (.l (.l (.r (.r (.r p1))))), (.r (.l (.r (.r (.r p1))))), (.l (.r (.r (.r (.r p1))))), (.r (.l (.l (.l (.l p2))))), (.l (.r (.l (.l (.l p2))))), (.r (.r (.l (.l (.l p2))))), (.l (.l (.r (.l (.l p2))))), (.r (.l (.r (.l (.l p2))))), (.l (.r (.r (.l (.l p2))))), (.r (.r (.r (.l (.l p2))))), (.l (.l (.l (.r (.l p2))))), (.r (.l (.l (.r (.l p2))))), (.r (.r (.l (.r (.l p2))))), (.l (.l (.r (.r (.l p2))))), (.r (.l (.r (.r (.l p2))))), (.l (.r (.r (.r (.l p2))))), (.r (.r (.r (.r (.l p2))))), (.l (.l (.l (.l (.r p2))))), (.r (.l (.l (.l (.r p2))))), (.l (.r (.l (.l (.r p2))))), (.r (.r (.l (.l (.r p2))))), (.l (.l (.r (.l (.r p2))))), (.r (.l (.r (.l (.r p2))))), (.l (.r (.r (.l (.r p2)))))]⟩
noncomputable def r16x0 : RF := fun call ρ st K => alc st [(.int .i64 (.ofNat (nat_lit 0))), (.int .i64 (.ofNat (nat_lit 0))), (.int .i64 (.ofNat (nat_lit 0))), (.int .i64 (.ofNat (nat_lit 0))), (.int .i64 (.ofNat (nat_lit 0))), (.int .i64 (.ofNat (nat_lit 0))), (.int .i64 (.ofNat (nat_lit 0))), (.int .i64 (.ofNat (nat_lit 0)))] (fun v0 st => K [v0] st)
theorem h16x0 : RegOk [⟨(some p0), none, (.more (.alloc [(.int .i64 (.ofNat (nat_lit 0))), (.int .i64 (.ofNat (nat_lit 0))), (.int .i64 (.ofNat (nat_lit 0))), (.int .i64 (.ofNat (nat_lit 0))), (.int .i64 (.ofNat (nat_lit 0))), (.int .i64 (.ofNat (nat_lit 0))), (.int .i64 (.ofNat (nat_lit 0))), (.int .i64 (.ofNat (nat_lit 0)))]))⟩] [p0] r16x0 := by
  intro call ρ st K
  kernel_rfl
noncomputable def r16x1 : RF := fun call ρ st K => h_op3_build [(.int .i64 (.ofNat (nat_lit 0))), (.int .i64 (.ofNat (nat_lit 0))), (.int .i64 (.ofNat (nat_lit 0))), (.int .i64 (.ofNat (nat_lit 0))), (.int .i64 (.ofNat (nat_lit 0))), (.int .i64 (.ofNat (nat_lit 0))), (.int .i64 (.ofNat (nat_lit 0))), (.int .i64 (.ofNat (nat_lit 0)))] [((nat_lit 0), (nat_lit 1), (.c (i6 0))), ((nat_lit 1), (nat_lit 1), (.c (i6 26))), ((nat_lit 2), (nat_lit 1), (.c (i6 27))), ((nat_lit 3), (nat_lit 1), (.c (i6 28))), ((nat_lit 4), (nat_lit 1), (.c (i6 29))), ((nat_lit 5), (nat_lit 1), (.c (i6 32))), ((nat_lit 6), (nat_lit 1), (.c (i6 33))), ((nat_lit 7), (nat_lit 1), (.c (i6 40)))] call ρ st (fun v0 st => sto st (nat_lit 8) (ρ p0) v0 ((fun _ st => K [] st) undefV))
theorem h16x1 : RegOk [⟨(some p1), none, (.more (.more (.build [(.int .i64 (.ofNat (nat_lit 0))), (.int .i64 (.ofNat (nat_lit 0))), (.int .i64 (.ofNat (nat_lit 0))), (.int .i64 (.ofNat (nat_lit 0))), (.int .i64 (.ofNat (nat_lit 0))), (.int .i64 (.ofNat (nat_lit 0))), (.int .i64 (.ofNat (nat_lit 0))), (.int .i64 (.ofNat (nat_lit 0)))] [((nat_lit 0), (nat_lit 1), (.c (.sc (.int .i64 (.ofNat (nat_lit 0)))))), ((nat_lit 1), (nat_lit 1), (.c (.sc (.int .i64 (.ofNat (nat_lit 26)))))), ((nat_lit 2), (nat_lit 1), (.c (.sc (.int .i64 (.ofNat (nat_lit 27)))))), ((nat_lit 3), (nat_lit 1), (.c (.sc (.int .i64 (.ofNat (nat_lit 28)))))), ((nat_lit 4), (nat_lit 1), (.c (.sc (.int .i64 (.ofNat (nat_lit 29)))))), ((nat_lit 5), (nat_lit 1), (.c (.sc (.int .i64 (.ofNat (nat_lit 32)))))), ((nat_lit 6), (nat_lit 1), (.c (.sc (.int .i64 (.ofNat (nat_lit 33)))))), ((nat_lit 7), (nat_lit 1), (.c (.sc (.int .i64 (.ofNat (nat_lit 40))))))])))⟩, ⟨none, none, (.more (.store (nat_lit 8) (.t p0) (.t p1)))⟩] [] r16x1 := by
  intro call ρ st K
  kernel_rfl
/- attestor/trace.looked -/
noncomputable def cf16 : HF := ⟨(.seq (.reg _ _ _ h16x0)
 (.seq (.reg _ _ _ h16x1)
 .ret)), [(.cellN (nat_lit 8) p0)], [], [p1]⟩
noncomputable def r22x0 : RF := fun call ρ st K => alc st [(.int .u8 (.ofNat (nat_lit 0))), (.int .i64 (.ofNat (nat_lit 0)))] (fun v0 st => K [v0] st)
theorem h22x0 : RegOk [⟨(some p2), none, (.more (.alloc [(.int .u8 (.ofNat (nat_lit 0))), (.int .i64 (.ofNat (nat_lit 0)))]))⟩] [p2] r22x0 := by
  intro call ρ st K
  kernel_rfl
noncomputable def r22x1 : RF := fun call ρ st K => h_op3_build [(.int .u8 (.ofNat (nat_lit 0))), (.int .i64 (.ofNat (nat_lit 0)))] [((nat_lit 0), (nat_lit 1), (.c (u8 1))), ((nat_lit 1), (nat_lit 1), (.c (ρ p0)))] call ρ st (fun v0 st => sto st (nat_lit 2) (ρ p2) v0 ((fun _ st => K [] st) undefV))
theorem h22x1 : RegOk [⟨(some (.l p1)), none, (.move (.t p0))⟩, ⟨(some (.r p1)), none, (.more (.more (.build [(.int .u8 (.ofNat (nat_lit 0))), (.int .i64 (.ofNat (nat_lit 0)))] [((nat_lit 0), (nat_lit 1), (.c (.sc (.int .u8 (.ofNat (nat_lit 1)))))), ((nat_lit 1), (nat_lit 1), (.t (.l p1)))])))⟩, ⟨none, none, (.more (.store (nat_lit 2) (.t p2) (.t (.r p1))))⟩] [] r22x1 := by
  intro call ρ st K
  kernel_rfl
/- attestor/trace.main -/
noncomputable def cf22 : HF := ⟨(.seq (.reg _ _ _ h22x0)
 (.seq (.reg _ _ _ h22x1)
 .ret)), [(.cellN (nat_lit 2) p2)], [p0], [(.l p1), (.r p1)]⟩
noncomputable def r21x0 : RF := fun call ρ st K => alc st [(.int .u8 (.ofNat (nat_lit 0))), (.int .i64 (.ofNat (nat_lit 0)))] (fun v0 st => K [v0] st)
theorem h21x0 : RegOk [⟨(some p2), none, (.more (.alloc [(.int .u8 (.ofNat (nat_lit 0))), (.int .i64 (.ofNat (nat_lit 0)))]))⟩] [p2] r21x0 := by
  intro call ρ st K
  kernel_rfl
noncomputable def r21x1 : RF := fun call ρ st K => h_op3_build [(.int .u8 (.ofNat (nat_lit 0))), (.int .i64 (.ofNat (nat_lit 0)))] [((nat_lit 0), (nat_lit 1), (.c (u8 3))), ((nat_lit 1), (nat_lit 1), (.c (ρ p0)))] call ρ st (fun v0 st => sto st (nat_lit 2) (ρ p2) v0 ((fun _ st => K [] st) undefV))
theorem h21x1 : RegOk [⟨(some (.l p1)), none, (.move (.t p0))⟩, ⟨(some (.r p1)), none, (.more (.more (.build [(.int .u8 (.ofNat (nat_lit 0))), (.int .i64 (.ofNat (nat_lit 0)))] [((nat_lit 0), (nat_lit 1), (.c (.sc (.int .u8 (.ofNat (nat_lit 3)))))), ((nat_lit 1), (nat_lit 1), (.t (.l p1)))])))⟩, ⟨none, none, (.more (.store (nat_lit 2) (.t p2) (.t (.r p1))))⟩] [] r21x1 := by
  intro call ρ st K
  kernel_rfl
/- attestor/trace.fixed -/
noncomputable def cf21 : HF := ⟨(.seq (.reg _ _ _ h21x0)
 (.seq (.reg _ _ _ h21x1)
 .ret)), [(.cellN (nat_lit 2) p2)], [p0], [(.l p1), (.r p1)]⟩
noncomputable def r20x0 : RF := fun call ρ st K => K [(.sc .nils)] st
theorem h20x0 : RegOk [⟨(some p2), none, (.move (.c (.sc .nils)))⟩] [p2] r20x0 := by
  intro call ρ st K
  kernel_rfl
noncomputable def r20x1 : RF := fun call ρ st K => K [(.sc .nils)] st
theorem h20x1 : RegOk [⟨(some (.l p1)), none, (.move (.c (.sc .nils)))⟩] [(.l p1)] r20x1 := by
  intro call ρ st K
  kernel_rfl
noncomputable def r20x2 : RF := fun call ρ st K => lnS (ρ p0) (fun v => (fun v0 st => K [(ρ p0), v0, (i6 0)] st) v st)
theorem h20x2 : RegOk [⟨(some (.r p2)), none, (.move (.t p0))⟩, ⟨(some (.l (.l p1))), none, (.more (.len (.t (.r p2))))⟩, ⟨(some (.r (.l p1))), none, (.move (.c (.sc (.int .i64 (.ofNat (nat_lit 0))))))⟩] [(.r p2), (.l (.l p1)), (.r (.l p1))] r20x2 := by
  intro call ρ st K
  kernel_rfl
noncomputable def r20x3 : RF := fun call ρ st K => binK .lss (ρ (.r (.l p1))) (ρ (.l (.l p1))) (fun v => (fun v0 st => K [v0] st) v st)
theorem h20x3 : RegOk [⟨(some (.l (.r p1))), none, (.bin .lss (.t (.r (.l p1))) (.t (.l (.l p1))))⟩] [(.l (.r p1))] r20x3 := by
  intro call ρ st K
  kernel_rfl
noncomputable def r20x4 : RF := fun call ρ st K => ixs (nat_lit 1) (ρ (.r p2)) (ρ (.r (.l p1))) (fun v => (fun v0 st => ld1 st v0 (fun v => (fun v1 st => K [v1] st) v st)) v st)
theorem h20x4 : RegOk [⟨(some (.r (.r p1))), none, (.idxS (nat_lit 1) (.t (.r p2)) (.t (.r (.l p1))))⟩, ⟨(some (.l (.l p2))), none, (.load1 (.t (.r (.r p1))))⟩, ⟨(some (.l p2)), none, (.move (.t (.l (.l p2))))⟩] [(.l p2)] r20x4 := by
  intro call ρ st K
  kernel_rfl
noncomputable def r20x5 : RF := fun call ρ st K => call (nat_lit 22) [(ρ (.l p2))] st (fun v0 st => h_op3_buildS (nat_lit 1) (nat_lit 2) [(.int .u8 (.ofNat (nat_lit 0))), (.int .i64 (.ofNat (nat_lit 0)))] [((nat_lit 0), (nat_lit 2), (.c v0))] call ρ st (fun v1 st => h_op3_append (nat_lit 2) (nat_lit 16) (.c (ρ (.l p1))) (.c v1) call ρ st (fun v2 st => K [v2] st)))
theorem h20x5 : RegOk [⟨(some (.r (.l p2))), none, (.move (.t (.l p1)))⟩, ⟨(some (.l (.r p2))), none, (.move (.t (.l p2)))⟩, ⟨(some (.r (.r p2))), none, (.call (nat_lit 22) [(.t (.l (.r p2)))])⟩, ⟨(some (.l (.l (.l p1)))), none, (.more (.more (.buildS (nat_lit 1) (nat_lit 2) [(.int .u8 (.ofNat (nat_lit 0))), (.int .i64 (.ofNat (nat_lit 0)))] [((nat_lit 0), (nat_lit 2), (.t (.r (.r p2))))])))⟩, ⟨(some (.r (.l (.l p1)))), none, (.more (.more (.append (nat_lit 2) (nat_lit 16) (.t (.r (.l p2))) (.t (.l (.l (.l p1)))))))⟩, ⟨(some (.l p1)), none, (.move (.t (.r (.l (.l p1)))))⟩] [(.l p1)] r20x5 := by
  intro call ρ st K
  kernel_rfl
noncomputable def r20x6 : RF := fun call ρ st K => binK .add (ρ (.r (.l p1))) (i6 1) (fun v => (fun v0 st => K [v0] st) v st)
theorem h20x6 : RegOk [⟨(some (.l (.r (.l p1)))), none, (.bin .add (.t (.r (.l p1))) (.c (.sc (.int .i64 (.ofNat (nat_lit 1))))))⟩, ⟨(some (.r (.l p1))), none, (.move (.t (.l (.r (.l p1)))))⟩] [(.r (.l p1))] r20x6 := by
  intro call ρ st K
  kernel_rfl
noncomputable def r20x7 : RF := fun call ρ st K => K [(ρ (.l p1))] st
theorem h20x7 : RegOk [⟨(some (.r (.r (.l p1)))), none, (.move (.t (.l p1)))⟩, ⟨(some p2), none, (.move (.t (.r (.r (.l p1)))))⟩] [p2] r20x7 := by
  intro call ρ st K
  kernel_rfl
/- attestor/trace.tuple -/
noncomputable def cf20 : HF := ⟨(.seq (.reg _ _ _ h20x0)
 (.seq (.reg _ _ _ h20x1)
 (.seq (.seq (.reg _ _ _ h20x2)
 (.block (nat_lit 0) (.loop (.seq (.reg _ _ _ h20x3)
 (.seq (.cond (.t (.l (.r p1))) .skip
 (.exit (nat_lit 0)))
 (.seq (.block (nat_lit 1) (.seq (.reg _ _ _ h20x4)
 (.reg _ _ _ h20x5)))
 (.reg _ _ _ h20x6)))))))
 (.seq (.reg _ _ _ h20x7)
 .ret)))), [(.tmp p2)], [p0], [(.r (.r p1)), (.l (.l p2)), (.r (.l p2)), (.l (.r p2)), (.r (.r p2)), (.l (.l (.l p1))), (.r (.l (.l p1))), (.l (.r (.l p1))), (.r (.r (.l p1)))]⟩
noncomputable def r19x0 : RF := fun call ρ st K => bxx st (ρ p0) (fun v0 st => K [v0, (u6 0)] st)
theorem h19x0 : RegOk [⟨(some p1), none, (.more (.box (.t p0)))⟩, ⟨(some p2), none, (.move (.c (.sc (.int .u64 (.ofNat (nat_lit 0))))))⟩] [p1, p2] r19x0 := by
  intro call ρ st K
  kernel_rfl
noncomputable def r19x1 : RF := fun call ρ st K => fad (nat_lit 1) (ρ p1) (fun v => (fun v0 st => ld1 st v0 (fun v => (fun v1 st => binK .add (u8 8) v1 (fun v => (fun v2 st => h_op4_shift true (.c (u6 1)) (.c v2) call ρ st (fun v3 st => fad (nat_lit 2) (ρ p1) (fun v => (fun v4 st => ld1 st v4 (fun v => (fun v5 st => binK .add (u8 12) v5 (fun v => (fun v6 st => h_op4_shift true (.c (u6 1)) (.c v6) call ρ st (fun v7 st => binK .or v3 v7 (fun v => (fun v8 st => K [v8] st) v st))) v st)) v st)) v st))) v st)) v st)) v st)
theorem h19x1 : RegOk [⟨(some (.r p1)), none, (.fa (nat_lit 1) (.t p1))⟩, ⟨(some (.l p2)), none, (.load1 (.t (.r p1)))⟩, ⟨(some (.r p2)), none, (.bin .add (.c (.sc (.int .u8 (.ofNat (nat_lit 8))))) (.t (.l p2)))⟩, ⟨(some (.l (.l p1))), none, (.more (.more (.more (.shift true (.c (.sc (.int .u64 (.ofNat (nat_lit 1))))) (.t (.r p2))))))⟩, ⟨(some (.r (.l p1))), none, (.fa (nat_lit 2) (.t p1))⟩, ⟨(some (.l (.r p1))), none, (.load1 (.t (.r (.l p1))))⟩, ⟨(some (.r (.r p1))), none, (.bin .add (.c (.sc (.int .u8 (.ofNat (nat_lit 12))))) (.t (.l (.r p1))))⟩, ⟨(some (.l (.l p2))), none, (.more (.more (.more (.shift true (.c (.sc (.int .u64 (.ofNat (nat_lit 1))))) (.t (.r (.r p1)))))))⟩, ⟨(some (.r (.l p2))), none, (.bin .or (.t (.l (.l p1))) (.t (.l (.l p2))))⟩, ⟨(some (.l p1)), none, (.move (.t (.r (.l p2))))⟩] [(.l p1)] r19x1 := by
  intro call ρ st K
  kernel_rfl
noncomputable def r19x2 : RF := fun call ρ st K => fad (nat_lit 0) (ρ p1) (fun v => (fun v0 st => ld1 st v0 (fun v => (fun v1 st => binK .neq v1 (u8 0) (fun v => (fun v2 st => K [v2] st) v st)) v st)) v st)
theorem h19x2 : RegOk [⟨(some (.l (.r p2))), none, (.fa (nat_lit 0) (.t p1))⟩, ⟨(some (.r (.r p2))), none, (.load1 (.t (.l (.r p2))))⟩, ⟨(some (.l (.l (.l p1)))), none, (.bin .neq (.t (.r (.r p2))) (.c (.sc (.int .u8 (.ofNat (nat_lit 0))))))⟩] [(.l (.l (.l p1)))] r19x2 := by
  intro call ρ st K
  kernel_rfl
noncomputable def r19x3 : RF := fun call ρ st K => fad (nat_lit 0) (ρ p1) (fun v => (fun v0 st => ld1 st v0 (fun v => (fun v1 st => binK .sub v1 (u8 1) (fun v => (fun v2 st => h_op4_shift true (.c (u6 1)) (.c v2) call ρ st (fun v3 st => binK .or (ρ (.l p1)) v3 (fun v => (fun v4 st => K [v4] st) v st))) v st)) v st)) v st)
theorem h19x3 : RegOk [⟨(some (.r (.l (.l p1)))), none, (.move (.t (.l p1)))⟩, ⟨(some (.l (.r (.l p1)))), none, (.fa (nat_lit 0) (.t p1))⟩, ⟨(some (.r (.r (.l p1)))), none, (.load1 (.t (.l (.r (.l p1)))))⟩, ⟨(some (.l (.l (.r p1)))), none, (.bin .sub (.t (.r (.r (.l p1)))) (.c (.sc (.int .u8 (.ofNat (nat_lit 1))))))⟩, ⟨(some (.r (.l (.r p1)))), none, (.more (.more (.more (.shift true (.c (.sc (.int .u64 (.ofNat (nat_lit 1))))) (.t (.l (.l (.r p1))))))))⟩, ⟨(some (.l (.r (.r p1)))), none, (.bin .or (.t (.r (.l (.l p1)))) (.t (.r (.l (.r p1)))))⟩, ⟨(some (.l p1)), none, (.move (.t (.l (.r (.r p1)))))⟩] [(.l p1)] r19x3 := by
  intro call ρ st K
  kernel_rfl
noncomputable def r19x4 : RF := fun call ρ st K => K [(ρ (.l p1))] st
theorem h19x4 : RegOk [⟨(some (.r (.r (.r p1)))), none, (.move (.t (.l p1)))⟩, ⟨(some p2), none, (.move (.t (.r (.r (.r p1)))))⟩] [p2] r19x4 := by
  intro call ρ st K
  kernel_rfl
/- attestor/trace.packed -/
noncomputable def cf19 : HF := ⟨(.seq (.reg _ _ _ h19x0)
 (.seq (.reg _ _ _ h19x1)
 (.seq (.seq (.reg _ _ _ h19x2)
 (.cond (.t (.l (.l (.l p1)))) (.reg _ _ _ h19x3)
 .skip))
 (.seq (.reg _ _ _ h19x4)
 .ret)))), [(.tmp p2)], [p0], [(.r p1), (.l p2), (.r p2), (.l (.l p1)), (.r (.l p1)), (.l (.r p1)), (.r (.r p1)), (.l (.l p2)), (.r (.l p2)), (.l (.r p2)), (.r (.r p2)), (.r (.l (.l p1))), (.l (.r (.l p1))), (.r (.r (.l p1))), (.l (.l (.r p1))), (.r (.l (.r p1))), (.l (.r (.r p1))), (.r (.r (.r p1)))]⟩
noncomputable def r18x0 : RF := fun call ρ st K => alc st [(.int .u8 (.ofNat (nat_lit 0))), (.int .u8 (.ofNat (nat_lit 0))), (.int .u8 (.ofNat (nat_lit 0))), (.int .u8 (.ofNat (nat_lit 0)))] (fun v0 st => K [v0] st)
theorem h18x0 : RegOk [⟨(some (.r p1)), none, (.more (.alloc [(.int .u8 (.ofNat (nat_lit 0))), (.int .u8 (.ofNat (nat_lit 0))), (.int .u8 (.ofNat (nat_lit 0))), (.int .u8 (.ofNat (nat_lit 0)))]))⟩] [(.r p1)] r18x0 := by
  intro call ρ st K
  kernel_rfl
noncomputable def r18x1 : RF := fun call ρ st K => binK .lss (ρ p1) (i6 0) (fun v => (fun v0 st => jn false v0 (fun j => (j) (ρ p1) st) st (fun v1 st => jn false v0 (fun j => (j) (ρ p0) st) st (fun v2 st => jn false v0 (fun j => lnS v2 (fun v => (j) v st)) st (fun v3 st => jn false v0 (fun j => binK .geq v1 v3 (fun v => (j) v st)) st (fun v4 st => pck v0 (.sc (.bool true)) v4 (fun v => (fun v5 st => K [v5] st) v st)))))) v st)
theorem h18x1 : RegOk [⟨(some (.l p2)), none, (.move (.t p1))⟩, ⟨(some (.r p2)), none, (.bin .lss (.t (.l p2)) (.c (.sc (.int .i64 (.ofNat (nat_lit 0))))))⟩, ⟨(some (.l (.l p1))), none, (.move (.t (.r p2)))⟩, ⟨(some (.r (.l p1))), (some ((.l (.l p1)), false)), (.move (.t p1))⟩, ⟨(some (.l (.r p1))), (some ((.l (.l p1)), false)), (.move (.t p0))⟩, ⟨(some (.r (.r p1))), (some ((.l (.l p1)), false)), (.more (.len (.t (.l (.r p1)))))⟩, ⟨(some (.l (.l p2))), (some ((.l (.l p1)), false)), (.bin .geq (.t (.r (.l p1))) (.t (.r (.r p1))))⟩, ⟨(some (.r (.l p2))), none, (.more (.pick (.t (.l (.l p1))) (.c (.sc (.bool true))) (.t (.l (.l p2)))))⟩] [(.r (.l p2))] r18x1 := by
  intro call ρ st K
  kernel_rfl
noncomputable def r18x2 : RF := fun call ρ st K => h_op3_build [(.int .u8 (.ofNat (nat_lit 0))), (.int .u8 (.ofNat (nat_lit 0))), (.int .u8 (.ofNat (nat_lit 0))), (.int .u8 (.ofNat (nat_lit 0)))] [] call ρ st (fun v0 st => sto st (nat_lit 4) (ρ (.r p1)) v0 ((fun _ st => K [] st) undefV))
theorem h18x2 : RegOk [⟨(some (.l (.r p2))), none, (.more (.more (.build [(.int .u8 (.ofNat (nat_lit 0))), (.int .u8 (.ofNat (nat_lit 0))), (.int .u8 (.ofNat (nat_lit 0))), (.int .u8 (.ofNat (nat_lit 0)))] [])))⟩, ⟨none, none, (.more (.store (nat_lit 4) (.t (.r p1)) (.t (.l (.r p2)))))⟩] [] r18x2 := by
  intro call ρ st K
  kernel_rfl
noncomputable def r18x3 : RF := fun call ρ st K => ixs (nat_lit 4) (ρ p0) (ρ p1) (fun v => (fun v0 st => ldN st (nat_lit 4) v0 (fun v => (fun v1 st => sto st (nat_lit 4) (ρ (.r p1)) v1 ((fun _ st => K [] st) undefV)) v st)) v st)
theorem h18x3 : RegOk [⟨(some (.r (.r p2))), none, (.move (.t p0))⟩, ⟨(some (.l (.l (.l p1)))), none, (.move (.t p1))⟩, ⟨(some (.r (.l (.l p1)))), none, (.idxS (nat_lit 4) (.t (.r (.r p2))) (.t (.l (.l (.l p1)))))⟩, ⟨(some (.l (.r (.l p1)))), none, (.loadN (nat_lit 4) (.t (.r (.l (.l p1)))))⟩, ⟨none, none, (.more (.store (nat_lit 4) (.t (.r p1)) (.t (.l (.r (.l p1))))))⟩] [] r18x3 := by
  intro call ρ st K
  kernel_rfl
/- attestor/isa.Fetch -/
noncomputable def cf18 : HF := ⟨(.seq (.reg _ _ _ h18x0)
 (.seq (.seq (.reg _ _ _ h18x1)
 (.cond (.t (.r (.l p2))) (.seq (.reg _ _ _ h18x2)
 .ret)
 .skip))
 (.seq (.reg _ _ _ h18x3)
 .ret))), [(.cellN (nat_lit 4) (.r p1))], [p0, p1], [(.l p2), (.r p2), (.l (.l p1)), (.r (.l p1)), (.l (.r p1)), (.r (.r p1)), (.l (.l p2)), (.l (.r p2)), (.r (.r p2)), (.l (.l (.l p1))), (.r (.l (.l p1))), (.l (.r (.l p1)))]⟩
noncomputable def r17x0 : RF := fun call ρ st K => K [(.sc .nils)] st
theorem h17x0 : RegOk [⟨(some p0), none, (.move (.c (.sc .nils)))⟩] [p0] r17x0 := by
  intro call ρ st K
  kernel_rfl
noncomputable def r17x1 : RF := fun call ρ st K => alc st [.nils] (fun v0 st => K [v0] st)
theorem h17x1 : RegOk [⟨(some p1), none, (.more (.alloc [.nils]))⟩] [p1] r17x1 := by
  intro call ρ st K
  kernel_rfl
noncomputable def r17x2 : RF := fun call ρ st K => K [(i6 0)] st
theorem h17x2 : RegOk [⟨(some (.r p1)), none, (.move (.c (.sc (.int .i64 (.ofNat (nat_lit 0))))))⟩] [(.r p1)] r17x2 := by
  intro call ρ st K
  kernel_rfl
noncomputable def r17x3 : RF := fun call ρ st K => binK .lss (ρ (.r p1)) (i6 4) (fun v => (fun v0 st => K [v0] st) v st)
theorem h17x3 : RegOk [⟨(some (.l p2)), none, (.bin .lss (.t (.r p1)) (.c (.sc (.int .i64 (.ofNat (nat_lit 4))))))⟩] [(.l p2)] r17x3 := by
  intro call ρ st K
  kernel_rfl
noncomputable def r17x4 : RF := fun call ρ st K => K [(ρ (.r p1))] st
theorem h17x4 : RegOk [⟨(some (.r p2)), none, (.move (.t (.r p1)))⟩, ⟨(some p2), none, (.move (.t (.r p2)))⟩] [p2] r17x4 := by
  intro call ρ st K
  kernel_rfl
noncomputable def r17x5 : RF := fun call ρ st K => binK .add (i6 1) (ρ p2) (fun v => (fun v0 st => call (nat_lit 38) [v0] st (fun v1 st => call (nat_lit 40) [(ρ p2)] st (fun v2 st => h_op3_buildS (nat_lit 1) (nat_lit 1) [.nils] [((nat_lit 0), (nat_lit 1), (.c v2))] call ρ st (fun v3 st => call (nat_lit 39) [v1, v3] st (fun v4 st => h_op3_buildS (nat_lit 1) (nat_lit 1) [.nils] [((nat_lit 0), (nat_lit 1), (.c v4))] call ρ st (fun v5 st => call (nat_lit 37) [(ρ p1), (u8 3), v5] st (fun v6 st => K [] st))))))) v st)
theorem h17x5 : RegOk [⟨(some (.l (.l p1))), none, (.move (.t p2))⟩, ⟨(some (.r (.l p1))), none, (.bin .add (.c (.sc (.int .i64 (.ofNat (nat_lit 1))))) (.t (.l (.l p1))))⟩, ⟨(some (.l (.r p1))), none, (.call (nat_lit 38) [(.t (.r (.l p1)))])⟩, ⟨(some (.r (.r p1))), none, (.move (.t p2))⟩, ⟨(some (.l (.l p2))), none, (.call (nat_lit 40) [(.t (.r (.r p1)))])⟩, ⟨(some (.r (.l p2))), none, (.more (.more (.buildS (nat_lit 1) (nat_lit 1) [.nils] [((nat_lit 0), (nat_lit 1), (.t (.l (.l p2))))])))⟩, ⟨(some (.l (.r p2))), none, (.call (nat_lit 39) [(.t (.l (.r p1))), (.t (.r (.l p2)))])⟩, ⟨(some (.r (.r p2))), none, (.more (.more (.buildS (nat_lit 1) (nat_lit 1) [.nils] [((nat_lit 0), (nat_lit 1), (.t (.l (.r p2))))])))⟩, ⟨(some (.l (.l (.l p1)))), none, (.call (nat_lit 37) [(.t p1), (.c (.sc (.int .u8 (.ofNat (nat_lit 3))))), (.t (.r (.r p2)))])⟩] [] r17x5 := by
  intro call ρ st K
  kernel_rfl
noncomputable def r17x6 : RF := fun call ρ st K => binK .add (ρ (.r p1)) (i6 1) (fun v => (fun v0 st => K [v0] st) v st)
theorem h17x6 : RegOk [⟨(some (.r (.l (.l p1)))), none, (.bin .add (.t (.r p1)) (.c (.sc (.int .i64 (.ofNat (nat_lit 1))))))⟩, ⟨(some (.r p1)), none, (.move (.t (.r (.l (.l p1)))))⟩] [(.r p1)] r17x6 := by
  intro call ρ st K
  kernel_rfl
noncomputable def r17x7 : RF := fun call ρ st K => call (nat_lit 38) [(i6 0)] st (fun v0 st => call (nat_lit 38) [(i6 41)] st (fun v1 st => h_op3_buildS (nat_lit 2) (nat_lit 1) [.nils, .nils] [((nat_lit 0), (nat_lit 1), (.c v0)), ((nat_lit 1), (nat_lit 1), (.c v1))] call ρ st (fun v2 st => call (nat_lit 37) [(ρ p1), (u8 3), v2] st (fun v3 st => K [] st))))
theorem h17x7 : RegOk [⟨(some (.l (.r (.l p1)))), none, (.call (nat_lit 38) [(.c (.sc (.int .i64 (.ofNat (nat_lit 0)))))])⟩, ⟨(some (.r (.r (.l p1)))), none, (.call (nat_lit 38) [(.c (.sc (.int .i64 (.ofNat (nat_lit 41)))))])⟩, ⟨(some (.l (.l (.r p1)))), none, (.more (.more (.buildS (nat_lit 2) (nat_lit 1) [.nils, .nils] [((nat_lit 0), (nat_lit 1), (.t (.l (.r (.l p1))))), ((nat_lit 1), (nat_lit 1), (.t (.r (.r (.l p1)))))])))⟩, ⟨(some (.r (.l (.r p1)))), none, (.call (nat_lit 37) [(.t p1), (.c (.sc (.int .u8 (.ofNat (nat_lit 3))))), (.t (.l (.l (.r p1))))])⟩] [] r17x7 := by
  intro call ρ st K
  kernel_rfl
noncomputable def r17x8 : RF := fun call ρ st K => K [(i6 0)] st
theorem h17x8 : RegOk [⟨(some (.l (.r (.r p1)))), none, (.move (.c (.sc (.int .i64 (.ofNat (nat_lit 0))))))⟩] [(.l (.r (.r p1)))] r17x8 := by
  intro call ρ st K
  kernel_rfl
noncomputable def r17x9 : RF := fun call ρ st K => binK .lss (ρ (.l (.r (.r p1)))) (i6 4) (fun v => (fun v0 st => K [v0] st) v st)
theorem h17x9 : RegOk [⟨(some (.r (.r (.r p1)))), none, (.bin .lss (.t (.l (.r (.r p1)))) (.c (.sc (.int .i64 (.ofNat (nat_lit 4))))))⟩] [(.r (.r (.r p1)))] r17x9 := by
  intro call ρ st K
  kernel_rfl
noncomputable def r17x10 : RF := fun call ρ st K => K [(ρ (.l (.r (.r p1))))] st
theorem h17x10 : RegOk [⟨(some (.l (.l (.l p2)))), none, (.move (.t (.l (.r (.r p1)))))⟩, ⟨(some (.l p1)), none, (.move (.t (.l (.l (.l p2)))))⟩] [(.l p1)] r17x10 := by
  intro call ρ st K
  kernel_rfl
noncomputable def r17x11 : RF := fun call ρ st K => binK .add (i6 1) (ρ (.l p1)) (fun v => (fun v0 st => call (nat_lit 38) [v0] st (fun v1 st => binK .add (i6 4) (ρ (.l p1)) (fun v => (fun v2 st => call (nat_lit 40) [v2] st (fun v3 st => h_op3_buildS (nat_lit 1) (nat_lit 1) [.nils] [((nat_lit 0), (nat_lit 1), (.c v3))] call ρ st (fun v4 st => call (nat_lit 39) [v1, v4] st (fun v5 st => h_op3_buildS (nat_lit 1) (nat_lit 1) [.nils] [((nat_lit 0), (nat_lit 1), (.c v5))] call ρ st (fun v6 st => call (nat_lit 37) [(ρ p1), (u8 4), v6] st (fun v7 st => K [] st)))))) v st))) v st)
theorem h17x11 : RegOk [⟨(some (.r (.l (.l p2)))), none, (.move (.t (.l p1)))⟩, ⟨(some (.l (.r (.l p2)))), none, (.bin .add (.c (.sc (.int .i64 (.ofNat (nat_lit 1))))) (.t (.r (.l (.l p2)))))⟩, ⟨(some (.r (.r (.l p2)))), none, (.call (nat_lit 38) [(.t (.l (.r (.l p2))))])⟩, ⟨(some (.l (.l (.r p2)))), none, (.move (.t (.l p1)))⟩, ⟨(some (.r (.l (.r p2)))), none, (.bin .add (.c (.sc (.int .i64 (.ofNat (nat_lit 4))))) (.t (.l (.l (.r p2)))))⟩, ⟨(some (.l (.r (.r p2)))), none, (.call (nat_lit 40) [(.t (.r (.l (.r p2))))])⟩, ⟨(some (.r (.r (.r p2)))), none, (.more (.more (.buildS (nat_lit 1) (nat_lit 1) [.nils] [((nat_lit 0), (nat_lit 1), (.t (.l (.r (.r p2)))))])))⟩, ⟨(some (.l (.l (.l (.l p1))))), none, (.call (nat_lit 39) [(.t (.r (.r (.l p2)))), (.t (.r (.r (.r p2))))])⟩, ⟨(some (.r (.l (.l (.l p1))))), none, (.more (.more (.buildS (nat_lit 1) (nat_lit 1) [.nils] [((nat_lit 0), (nat_lit 1), (.t (.l (.l (.l (.l p1))))))])))⟩, ⟨(some (.l (.r (.l (.l p1))))), none, (.call (nat_lit 37) [(.t p1), (.c (.sc (.int .u8 (.ofNat (nat_lit 4))))), (.t (.r (.l (.l (.l p1)))))])⟩] [] r17x11 := by
  intro call ρ st K
  kernel_rfl
noncomputable def r17x12 : RF := fun call ρ st K => binK .add (ρ (.l (.r (.r p1)))) (i6 1) (fun v => (fun v0 st => K [v0] st) v st)
theorem h17x12 : RegOk [⟨(some (.r (.r (.l (.l p1))))), none, (.bin .add (.t (.l (.r (.r p1)))) (.c (.sc (.int .i64 (.ofNat (nat_lit 1))))))⟩, ⟨(some (.l (.r (.r p1)))), none, (.move (.t (.r (.r (.l (.l p1))))))⟩] [(.l (.r (.r p1)))] r17x12 := by
  intro call ρ st K
  kernel_rfl
noncomputable def r17x13 : RF := fun call ρ st K => call (nat_lit 41) [(i6 5), (i6 8)] st (fun v0 st => call (nat_lit 38) [(i6 39)] st (fun v1 st => call (nat_lit 38) [(i6 40)] st (fun v2 st => h_op3_buildS (nat_lit 3) (nat_lit 1) [.nils, .nils, .nils] [((nat_lit 0), (nat_lit 1), (.c v0)), ((nat_lit 1), (nat_lit 1), (.c v1)), ((nat_lit 2), (nat_lit 1), (.c v2))] call ρ st (fun v3 st => call (nat_lit 37) [(ρ p1), (u8 4), v3] st (fun v4 st => K [] st)))))
theorem h17x13 : RegOk [⟨(some (.l (.l (.r (.l p1))))), none, (.call (nat_lit 41) [(.c (.sc (.int .i64 (.ofNat (nat_lit 5))))), (.c (.sc (.int .i64 (.ofNat (nat_lit 8)))))])⟩, ⟨(some (.r (.l (.r (.l p1))))), none, (.call (nat_lit 38) [(.c (.sc (.int .i64 (.ofNat (nat_lit 39)))))])⟩, ⟨(some (.l (.r (.r (.l p1))))), none, (.call (nat_lit 38) [(.c (.sc (.int .i64 (.ofNat (nat_lit 40)))))])⟩, ⟨(some (.r (.r (.r (.l p1))))), none, (.more (.more (.buildS (nat_lit 3) (nat_lit 1) [.nils, .nils, .nils] [((nat_lit 0), (nat_lit 1), (.t (.l (.l (.r (.l p1)))))), ((nat_lit 1), (nat_lit 1), (.t (.r (.l (.r (.l p1)))))), ((nat_lit 2), (nat_lit 1), (.t (.l (.r (.r (.l p1))))))])))⟩, ⟨(some (.l (.l (.l (.r p1))))), none, (.call (nat_lit 37) [(.t p1), (.c (.sc (.int .u8 (.ofNat (nat_lit 4))))), (.t (.r (.r (.r (.l p1)))))])⟩] [] r17x13 := by
  intro call ρ st K
  kernel_rfl
noncomputable def r17x14 : RF := fun call ρ st K => call (nat_lit 42) [(ρ p1)] st (fun v0 st => K [] st)
theorem h17x14 : RegOk [⟨(some (.r (.l (.l (.r p1))))), none, (.call (nat_lit 42) [(.t p1)])⟩] [] r17x14 := by
  intro call ρ st K
  kernel_rfl
noncomputable def r17x15 : RF := fun call ρ st K => call (nat_lit 43) [(ρ p1)] st (fun v0 st => K [] st)
theorem h17x15 : RegOk [⟨(some (.l (.r (.l (.r p1))))), none, (.call (nat_lit 43) [(.t p1)])⟩] [] r17x15 := by
  intro call ρ st K
  kernel_rfl
noncomputable def r17x16 : RF := fun call ρ st K => call (nat_lit 44) [(ρ p1)] st (fun v0 st => K [] st)
theorem h17x16 : RegOk [⟨(some (.r (.r (.l (.r p1))))), none, (.call (nat_lit 44) [(.t p1)])⟩] [] r17x16 := by
  intro call ρ st K
  kernel_rfl
noncomputable def r17x17 : RF := fun call ρ st K => call (nat_lit 45) [(ρ p1)] st (fun v0 st => K [] st)
theorem h17x17 : RegOk [⟨(some (.l (.l (.r (.r p1))))), none, (.call (nat_lit 45) [(.t p1)])⟩] [] r17x17 := by
  intro call ρ st K
  kernel_rfl
noncomputable def r17x18 : RF := fun call ρ st K => ld1 st (ρ p1) (fun v => (fun v0 st => K [v0] st) v st)
theorem h17x18 : RegOk [⟨(some (.r (.l (.r (.r p1))))), none, (.load1 (.t p1))⟩, ⟨(some p0), none, (.move (.t (.r (.l (.r (.r p1))))))⟩] [p0] r17x18 := by
  intro call ρ st K
  kernel_rfl
/- attestor/trace.rules -/
noncomputable def cf17 : HF := ⟨(.seq (.reg _ _ _ h17x0)
 (.seq (.reg _ _ _ h17x1)
 (.seq (.seq (.reg _ _ _ h17x2)
 (.block (nat_lit 0) (.loop (.seq (.reg _ _ _ h17x3)
 (.seq (.cond (.t (.l p2)) .skip
 (.exit (nat_lit 0)))
 (.seq (.block (nat_lit 1) (.seq (.reg _ _ _ h17x4)
 (.reg _ _ _ h17x5)))
 (.reg _ _ _ h17x6)))))))
 (.seq (.reg _ _ _ h17x7)
 (.seq (.seq (.reg _ _ _ h17x8)
 (.block (nat_lit 2) (.loop (.seq (.reg _ _ _ h17x9)
 (.seq (.cond (.t (.r (.r (.r p1)))) .skip
 (.exit (nat_lit 2)))
 (.seq (.block (nat_lit 3) (.seq (.reg _ _ _ h17x10)
 (.reg _ _ _ h17x11)))
 (.reg _ _ _ h17x12)))))))
 (.seq (.reg _ _ _ h17x13)
 (.seq (.reg _ _ _ h17x14)
 (.seq (.reg _ _ _ h17x15)
 (.seq (.reg _ _ _ h17x16)
 (.seq (.reg _ _ _ h17x17)
 (.seq (.reg _ _ _ h17x18)
 .ret))))))))))), [(.tmp p0)], [], [(.r p2), (.l (.l p1)), (.r (.l p1)), (.l (.r p1)), (.r (.r p1)), (.l (.l p2)), (.r (.l p2)), (.l (.r p2)), (.r (.r p2)), (.l (.l (.l p1))), (.r (.l (.l p1))), (.l (.r (.l p1))), (.r (.r (.l p1))), (.l (.l (.r p1))), (.r (.l (.r p1))), (.l (.l (.l p2))), (.r (.l (.l p2))), (.l (.r (.l p2))), (.r (.r (.l p2))), (.l (.l (.r p2))), (.r (.l (.r p2))), (.l (.r (.r p2))), (.r (.r (.r p2))), (.l (.l (.l (.l p1)))), (.r (.l (.l (.l p1)))), (.l (.r (.l (.l p1)))), (.r (.r (.l (.l p1)))), (.l (.l (.r (.l p1)))), (.r (.l (.r (.l p1)))), (.l (.r (.r (.l p1)))), (.r (.r (.r (.l p1)))), (.l (.l (.l (.r p1)))), (.r (.l (.l (.r p1)))), (.l (.r (.l (.r p1)))), (.r (.r (.l (.r p1)))), (.l (.l (.r (.r p1)))), (.r (.l (.r (.r p1))))]⟩
end Go.Proofs.YtffaehgicojjmaaDoor.Ev
