/- Compiled functions of the translated program, and that each is what the compiler makes of it; no conditions. -/
import Derived.Test.YtffaehgicojjmaaDoorEvC
import Derived.KernelRfl
namespace Go.Proofs.YtffaehgicojjmaaDoor.Ev
set_option maxRecDepth 100000
set_option linter.unusedVariables false
noncomputable def r74x0 : RF := fun call ρ st K => K [(.sc (.bool false))] st
theorem h74x0 : RegOk [⟨(some (.r (.l p1))), none, (.move (.c (.sc (.bool false))))⟩] [(.r (.l p1))] r74x0 := by
  intro call ρ st K
  kernel_rfl
noncomputable def r74x1 : RF := fun call ρ st K => binK .add (ρ p1) (i6 1) (fun v => (fun v0 st => K [v0] st) v st)
theorem h74x1 : RegOk [⟨(some (.l (.r p2))), none, (.move (.t p1))⟩, ⟨(some (.r (.r p2))), none, (.bin .add (.t (.l (.r p2))) (.c (.sc (.int .i64 (.ofNat (nat_lit 1))))))⟩, ⟨(some (.l (.r p1))), none, (.move (.t (.r (.r p2))))⟩] [(.l (.r p1))] r74x1 := by
  intro call ρ st K
  kernel_rfl
noncomputable def r74x2 : RF := fun call ρ st K => K [(i6 0)] st
theorem h74x2 : RegOk [⟨(some (.r (.r p1))), none, (.move (.c (.sc (.int .i64 (.ofNat (nat_lit 0))))))⟩] [(.r (.r p1))] r74x2 := by
  intro call ρ st K
  kernel_rfl
noncomputable def r74x3 : RF := fun call ρ st K => binK .lss (ρ (.r (.r p1))) (i6 5) (fun v => (fun v0 st => K [v0] st) v st)
theorem h74x3 : RegOk [⟨(some (.l (.l (.l p1)))), none, (.move (.t (.r (.r p1))))⟩, ⟨(some (.r (.l (.l p1)))), none, (.bin .lss (.t (.l (.l (.l p1)))) (.c (.sc (.int .i64 (.ofNat (nat_lit 5))))))⟩] [(.r (.l (.l p1)))] r74x3 := by
  intro call ρ st K
  kernel_rfl
noncomputable def r74x4 : RF := fun call ρ st K => (fun n0 mk => (fun v st => (fun v0 mk st => (fun v st => (fun v1 mk st => binK .lss v0 v1 (fun v => (fun v st => (fun v2 mk st => (fun v st => (fun v3 mk st => jnD true v3 (fun jj => (fun v st => (jj) v mk st) (ρ (.l p1)) st) mk st (fun v4 mk st => jnD true v3 (fun jj => (fun v st => (jj) v mk st) (ρ p0) st) mk st (fun v5 mk st => jnD true v3 (fun jj => (fun v st => (jj) v mk st) (ρ (.l (.r p1))) st) mk st (fun v6 mk st => jnD true v3 (fun jj => ixs (nat_lit 1) v5 v6 (fun v => (fun v st => (jj) v mk st) v st)) mk st (fun v7 mk st => jnD true v3 (fun jj => dw2 n0 mk (nat_lit 256) (nat_lit 239) v7 (fun q => ld1 st v7 (fun v => (q) v st)) (jj)) mk st (fun v8 mk st => jnD true v3 (fun jj => (fun v st => (jj) v mk st) (ρ p0) st) mk st (fun v9 mk st => jnD true v3 (fun jj => (fun v st => (jj) v mk st) (ρ (.l (.r p1))) st) mk st (fun v10 mk st => jnD true v3 (fun jj => binK .sub v10 (i6 1) (fun v => (fun v st => (jj) v mk st) v st)) mk st (fun v11 mk st => jnD true v3 (fun jj => ixs (nat_lit 1) v9 v11 (fun v => (fun v st => (jj) v mk st) v st)) mk st (fun v12 mk st => jnD true v3 (fun jj => dw2 n0 mk (nat_lit 8192) (nat_lit 7695) v12 (fun q => ld1 st v12 (fun v => (q) v st)) (jj)) mk st (fun v13 mk st => jnD true v3 (fun jj => dw3 mk (nat_lit 16384) (nat_lit 16383) st (fun st q => h_op4_callV (.c v4) [(.c v8), (.c v13)] call ρ st (q)) (jj)) mk st (fun v14 mk st => jnD true v3 (fun jj => binK .lss v14 (i6 0) (fun v => (fun v st => (jj) v mk st) v st)) mk st (fun v15 mk st => jnD true v3 (fun jj => nott v15 (fun v => (fun v st => (jj) v mk st) v st)) mk st (fun v16 mk st => pck v3 v16 (.sc (.bool false)) (fun v => (fun v st => (fun v17 mk st => K [v17] st) v mk st) v st))))))))))))))) v mk st) v2 st) v mk st) v st)) v mk st) (ρ p2) st) v mk st) (ρ (.l (.r p1))) st) st.next mk0
theorem h74x4 : DrwOk [⟨(some (.l (.l (.r p1)))), none, (.move (.t (.l (.r p1)))), (nat_lit 0), (nat_lit 1), (nat_lit 0)⟩, ⟨(some (.r (.l (.r p1)))), none, (.move (.t p2)), (nat_lit 0), (nat_lit 2), (nat_lit 0)⟩, ⟨(some (.l (.r (.r p1)))), none, (.bin .lss (.t (.l (.l (.r p1)))) (.t (.r (.l (.r p1))))), (nat_lit 0), (nat_lit 4), (nat_lit 3)⟩, ⟨(some (.r (.r (.r p1)))), none, (.move (.t (.l (.r (.r p1))))), (nat_lit 0), (nat_lit 8), (nat_lit 7)⟩, ⟨(some (.l (.l (.l p2)))), (some ((.r (.r (.r p1))), true)), (.move (.t (.l p1))), (nat_lit 0), (nat_lit 16), (nat_lit 15)⟩, ⟨(some (.r (.l (.l p2)))), (some ((.r (.r (.r p1))), true)), (.move (.t p0)), (nat_lit 0), (nat_lit 32), (nat_lit 15)⟩, ⟨(some (.l (.r (.l p2)))), (some ((.r (.r (.r p1))), true)), (.move (.t (.l (.r p1)))), (nat_lit 0), (nat_lit 64), (nat_lit 15)⟩, ⟨(some (.r (.r (.l p2)))), (some ((.r (.r (.r p1))), true)), (.idxS (nat_lit 1) (.t (.r (.l (.l p2)))) (.t (.l (.r (.l p2))))), (nat_lit 0), (nat_lit 128), (nat_lit 111)⟩, ⟨(some (.l (.l (.r p2)))), (some ((.r (.r (.r p1))), true)), (.load1 (.t (.r (.r (.l p2))))), (nat_lit 2), (nat_lit 256), (nat_lit 239)⟩, ⟨(some (.r (.l (.r p2)))), (some ((.r (.r (.r p1))), true)), (.move (.t p0)), (nat_lit 0), (nat_lit 512), (nat_lit 15)⟩, ⟨(some (.l (.r (.r p2)))), (some ((.r (.r (.r p1))), true)), (.move (.t (.l (.r p1)))), (nat_lit 0), (nat_lit 1024), (nat_lit 15)⟩, ⟨(some (.r (.r (.r p2)))), (some ((.r (.r (.r p1))), true)), (.bin .sub (.t (.l (.r (.r p2)))) (.c (.sc (.int .i64 (.ofNat (nat_lit 1)))))), (nat_lit 0), (nat_lit 2048), (nat_lit 1039)⟩, ⟨(some (.l (.l (.l (.l p1))))), (some ((.r (.r (.r p1))), true)), (.idxS (nat_lit 1) (.t (.r (.l (.r p2)))) (.t (.r (.r (.r p2))))), (nat_lit 0), (nat_lit 4096), (nat_lit 3599)⟩, ⟨(some (.r (.l (.l (.l p1))))), (some ((.r (.r (.r p1))), true)), (.load1 (.t (.l (.l (.l (.l p1)))))), (nat_lit 2), (nat_lit 8192), (nat_lit 7695)⟩, ⟨(some (.l (.r (.l (.l p1))))), (some ((.r (.r (.r p1))), true)), (.more (.more (.more (.callV (.t (.l (.l (.l p2)))) [(.t (.l (.l (.r p2)))), (.t (.r (.l (.l (.l p1)))))])))), (nat_lit 3), (nat_lit 16384), (nat_lit 16383)⟩, ⟨(some (.r (.r (.l (.l p1))))), (some ((.r (.r (.r p1))), true)), (.bin .lss (.t (.l (.r (.l (.l p1))))) (.c (.sc (.int .i64 (.ofNat (nat_lit 0)))))), (nat_lit 0), (nat_lit 32768), (nat_lit 32767)⟩, ⟨(some (.l (.l (.r (.l p1))))), (some ((.r (.r (.r p1))), true)), (.more (.more (.more (.not (.t (.r (.r (.l (.l p1))))))))), (nat_lit 0), (nat_lit 65536), (nat_lit 65535)⟩, ⟨(some (.r (.l (.r (.l p1))))), none, (.more (.pick (.t (.r (.r (.r p1)))) (.t (.l (.l (.r (.l p1))))) (.c (.sc (.bool false))))), (nat_lit 0), (nat_lit 131072), (nat_lit 131071)⟩] [(.r (.l (.r (.l p1))))] r74x4 := by
  intro call ρ st K
  kernel_rfl
noncomputable def r74x5 : RF := fun call ρ st K => binK .add (ρ (.l (.r p1))) (i6 1) (fun v => (fun v0 st => K [v0] st) v st)
theorem h74x5 : RegOk [⟨(some (.l (.r (.r (.l p1))))), none, (.move (.t (.l (.r p1))))⟩, ⟨(some (.r (.r (.r (.l p1))))), none, (.bin .add (.t (.l (.r (.r (.l p1))))) (.c (.sc (.int .i64 (.ofNat (nat_lit 1))))))⟩, ⟨(some (.l (.r p1))), none, (.move (.t (.r (.r (.r (.l p1))))))⟩] [(.l (.r p1))] r74x5 := by
  intro call ρ st K
  kernel_rfl
noncomputable def r74x6 : RF := fun call ρ st K => binK .eql (ρ (.l (.r p1))) (ρ p2) (fun v => (fun v0 st => K [v0] st) v st)
theorem h74x6 : RegOk [⟨(some (.l (.l (.l (.r p1))))), none, (.move (.t (.l (.r p1))))⟩, ⟨(some (.r (.l (.l (.r p1))))), none, (.move (.t p2))⟩, ⟨(some (.l (.r (.l (.r p1))))), none, (.bin .eql (.t (.l (.l (.l (.r p1))))) (.t (.r (.l (.l (.r p1))))))⟩] [(.l (.r (.l (.r p1))))] r74x6 := by
  intro call ρ st K
  kernel_rfl
noncomputable def r74x7 : RF := fun call ρ st K => K [(.sc (.bool true))] st
theorem h74x7 : RegOk [⟨(some (.r (.l p1))), none, (.move (.c (.sc (.bool true))))⟩] [(.r (.l p1))] r74x7 := by
  intro call ρ st K
  kernel_rfl
noncomputable def r74x8 : RF := fun call ρ st K => binK .sub (ρ p2) (ρ p1) (fun v => (fun v0 st => binK .lss v0 (i6 50) (fun v => (fun v1 st => K [v1] st) v st)) v st)
theorem h74x8 : RegOk [⟨(some (.r (.r (.l (.r p1))))), none, (.move (.t p2))⟩, ⟨(some (.l (.l (.r (.r p1))))), none, (.move (.t p1))⟩, ⟨(some (.r (.l (.r (.r p1))))), none, (.bin .sub (.t (.r (.r (.l (.r p1))))) (.t (.l (.l (.r (.r p1))))))⟩, ⟨(some (.l (.r (.r (.r p1))))), none, (.bin .lss (.t (.r (.l (.r (.r p1))))) (.c (.sc (.int .i64 (.ofNat (nat_lit 50))))))⟩] [(.l (.r (.r (.r p1))))] r74x8 := by
  intro call ρ st K
  kernel_rfl
noncomputable def r74x9 : RF := fun call ρ st K => K [(.sc (.bool false))] st
theorem h74x9 : RegOk [⟨(some (.r (.l p1))), none, (.move (.c (.sc (.bool false))))⟩] [(.r (.l p1))] r74x9 := by
  intro call ρ st K
  kernel_rfl
noncomputable def r74x10 : RF := fun call ρ st K => (fun n0 mk => (fun v st => (fun v0 mk st => (fun v st => (fun v1 mk st => (fun v st => (fun v2 mk st => (fun v st => (fun v3 mk st => binK .sub v3 (i6 1) (fun v => (fun v st => (fun v4 mk st => (fun v st => (fun v5 mk st => (fun v st => (fun v6 mk st => binK .sub v6 (i6 1) (fun v => (fun v st => (fun v7 mk st => ixs (nat_lit 1) v5 v7 (fun v => (fun v st => (fun v8 mk st => dw2 n0 mk (nat_lit 512) (nat_lit 480) v8 (fun q => ld1 st v8 (fun v => (q) v st)) (fun v9 mk st => (fun v st => (fun v10 mk st => (fun v st => (fun v11 mk st => ixs (nat_lit 1) v10 v11 (fun v => (fun v st => (fun v12 mk st => dw2 n0 mk (nat_lit 8192) (nat_lit 7168) v12 (fun q => ld1 st v12 (fun v => (q) v st)) (fun v13 mk st => ixs (nat_lit 1) v0 v1 (fun v => (fun v st => (fun v14 mk st => dw4 n0 mk (nat_lit 32768) (nat_lit 32739) v14 (fun q => sto st (nat_lit 1) v14 v9 ((q) undefV)) (fun _ mk st => ixs (nat_lit 1) v2 v4 (fun v => (fun v st => (fun v16 mk st => dw4 n0 mk (nat_lit 131072) (nat_lit 131071) v16 (fun q => sto st (nat_lit 1) v16 v13 ((q) undefV)) (fun _ mk st => K [] st)) v mk st) v st))) v mk st) v st))) v mk st) v st)) v mk st) (ρ (.l (.r p1))) st) v mk st) (ρ p0) st)) v mk st) v st)) v mk st) v st)) v mk st) (ρ (.l (.r p1))) st) v mk st) (ρ p0) st) v mk st) v st)) v mk st) (ρ (.l (.r p1))) st) v mk st) (ρ p0) st) v mk st) (ρ (.l (.r p1))) st) v mk st) (ρ p0) st) st.next mk0
theorem h74x10 : DrwOk [⟨(some (.r (.r (.r (.r p1))))), none, (.move (.t p0)), (nat_lit 0), (nat_lit 1), (nat_lit 0)⟩, ⟨(some (.l (.l (.l (.l p2))))), none, (.move (.t (.l (.r p1)))), (nat_lit 0), (nat_lit 2), (nat_lit 0)⟩, ⟨(some (.r (.l (.l (.l p2))))), none, (.move (.t p0)), (nat_lit 0), (nat_lit 4), (nat_lit 0)⟩, ⟨(some (.l (.r (.l (.l p2))))), none, (.move (.t (.l (.r p1)))), (nat_lit 0), (nat_lit 8), (nat_lit 0)⟩, ⟨(some (.r (.r (.l (.l p2))))), none, (.bin .sub (.t (.l (.r (.l (.l p2))))) (.c (.sc (.int .i64 (.ofNat (nat_lit 1)))))), (nat_lit 0), (nat_lit 16), (nat_lit 8)⟩, ⟨(some (.l (.l (.r (.l p2))))), none, (.move (.t p0)), (nat_lit 0), (nat_lit 32), (nat_lit 0)⟩, ⟨(some (.r (.l (.r (.l p2))))), none, (.move (.t (.l (.r p1)))), (nat_lit 0), (nat_lit 64), (nat_lit 0)⟩, ⟨(some (.l (.r (.r (.l p2))))), none, (.bin .sub (.t (.r (.l (.r (.l p2))))) (.c (.sc (.int .i64 (.ofNat (nat_lit 1)))))), (nat_lit 0), (nat_lit 128), (nat_lit 64)⟩, ⟨(some (.r (.r (.r (.l p2))))), none, (.idxS (nat_lit 1) (.t (.l (.l (.r (.l p2))))) (.t (.l (.r (.r (.l p2)))))), (nat_lit 0), (nat_lit 256), (nat_lit 224)⟩, ⟨(some (.l (.l (.l (.r p2))))), none, (.load1 (.t (.r (.r (.r (.l p2)))))), (nat_lit 2), (nat_lit 512), (nat_lit 480)⟩, ⟨(some (.r (.l (.l (.r p2))))), none, (.move (.t p0)), (nat_lit 0), (nat_lit 1024), (nat_lit 0)⟩, ⟨(some (.l (.r (.l (.r p2))))), none, (.move (.t (.l (.r p1)))), (nat_lit 0), (nat_lit 2048), (nat_lit 0)⟩, ⟨(some (.r (.r (.l (.r p2))))), none, (.idxS (nat_lit 1) (.t (.r (.l (.l (.r p2))))) (.t (.l (.r (.l (.r p2)))))), (nat_lit 0), (nat_lit 4096), (nat_lit 3072)⟩, ⟨(some (.l (.l (.r (.r p2))))), none, (.load1 (.t (.r (.r (.l (.r p2)))))), (nat_lit 2), (nat_lit 8192), (nat_lit 7168)⟩, ⟨(some (.r (.l (.r (.r p2))))), none, (.idxS (nat_lit 1) (.t (.r (.r (.r (.r p1))))) (.t (.l (.l (.l (.l p2)))))), (nat_lit 0), (nat_lit 16384), (nat_lit 16355)⟩, ⟨none, none, (.more (.store (nat_lit 1) (.t (.r (.l (.r (.r p2))))) (.t (.l (.l (.l (.r p2))))))), (nat_lit 4), (nat_lit 32768), (nat_lit 32739)⟩, ⟨(some (.l (.r (.r (.r p2))))), none, (.idxS (nat_lit 1) (.t (.r (.l (.l (.l p2))))) (.t (.r (.r (.l (.l p2)))))), (nat_lit 0), (nat_lit 65536), (nat_lit 65535)⟩, ⟨none, none, (.more (.store (nat_lit 1) (.t (.l (.r (.r (.r p2))))) (.t (.l (.l (.r (.r p2))))))), (nat_lit 4), (nat_lit 131072), (nat_lit 131071)⟩] [] r74x10 := by
  intro call ρ st K
  kernel_rfl
noncomputable def r74x11 : RF := fun call ρ st K => binK .sub (ρ (.l (.r p1))) (ρ p1) (fun v => (fun v0 st => binK .geq v0 (i6 2) (fun v => (fun v1 st => K [v1] st) v st)) v st)
theorem h74x11 : RegOk [⟨(some (.r (.r (.r (.r p2))))), none, (.move (.t (.l (.r p1))))⟩, ⟨(some (.l (.l (.l (.l (.l p1)))))), none, (.move (.t p1))⟩, ⟨(some (.r (.l (.l (.l (.l p1)))))), none, (.bin .sub (.t (.r (.r (.r (.r p2))))) (.t (.l (.l (.l (.l (.l p1)))))))⟩, ⟨(some (.l (.r (.l (.l (.l p1)))))), none, (.bin .geq (.t (.r (.l (.l (.l (.l p1)))))) (.c (.sc (.int .i64 (.ofNat (nat_lit 2))))))⟩] [(.l (.r (.l (.l (.l p1)))))] r74x11 := by
  intro call ρ st K
  kernel_rfl
noncomputable def r74x12 : RF := fun call ρ st K => binK .sub (ρ (.l (.r p1))) (i6 1) (fun v => (fun v0 st => K [v0] st) v st)
theorem h74x12 : RegOk [⟨(some (.r (.r (.l (.l (.l p1)))))), none, (.move (.t (.l (.r p1))))⟩, ⟨(some (.l (.l (.r (.l (.l p1)))))), none, (.bin .sub (.t (.r (.r (.l (.l (.l p1)))))) (.c (.sc (.int .i64 (.ofNat (nat_lit 1))))))⟩, ⟨(some (.l (.l p2))), none, (.move (.t (.l (.l (.r (.l (.l p1)))))))⟩] [(.l (.l p2))] r74x12 := by
  intro call ρ st K
  kernel_rfl
noncomputable def r74x13 : RF := fun call ρ st K => binK .geq (ρ (.l (.l p2))) (i6 1) (fun v => (fun v0 st => K [v0] st) v st)
theorem h74x13 : RegOk [⟨(some (.r (.l (.r (.l (.l p1)))))), none, (.move (.t (.l (.l p2))))⟩, ⟨(some (.l (.r (.r (.l (.l p1)))))), none, (.bin .geq (.t (.r (.l (.r (.l (.l p1)))))) (.c (.sc (.int .i64 (.ofNat (nat_lit 1))))))⟩] [(.l (.r (.r (.l (.l p1)))))] r74x13 := by
  intro call ρ st K
  kernel_rfl
noncomputable def r74x14 : RF := fun call ρ st K => (fun n0 mk => (fun v st => (fun v0 mk st => (fun v st => (fun v1 mk st => (fun v st => (fun v2 mk st => ixs (nat_lit 1) v1 v2 (fun v => (fun v st => (fun v3 mk st => dw2 n0 mk (nat_lit 16) (nat_lit 14) v3 (fun q => ld1 st v3 (fun v => (q) v st)) (fun v4 mk st => (fun v st => (fun v5 mk st => (fun v st => (fun v6 mk st => binK .sub v6 (i6 1) (fun v => (fun v st => (fun v7 mk st => ixs (nat_lit 1) v5 v7 (fun v => (fun v st => (fun v8 mk st => dw2 n0 mk (nat_lit 512) (nat_lit 480) v8 (fun q => ld1 st v8 (fun v => (q) v st)) (fun v9 mk st => dw3 mk (nat_lit 1024) (nat_lit 1023) st (fun st q => h_op4_callV (.c v0) [(.c v4), (.c v9)] call ρ st (q)) (fun v10 mk st => binK .lss v10 (i6 0) (fun v => (fun v st => (fun v11 mk st => nott v11 (fun v => (fun v st => (fun v12 mk st => K [v12] st) v mk st) v st)) v mk st) v st)))) v mk st) v st)) v mk st) v st)) v mk st) (ρ (.l (.l p2))) st) v mk st) (ρ p0) st)) v mk st) v st)) v mk st) (ρ (.l (.l p2))) st) v mk st) (ρ p0) st) v mk st) (ρ (.l p1)) st) st.next mk0
theorem h74x14 : DrwOk [⟨(some (.r (.l (.l (.r (.l p1)))))), none, (.move (.t (.l p1))), (nat_lit 0), (nat_lit 1), (nat_lit 0)⟩, ⟨(some (.l (.r (.l (.r (.l p1)))))), none, (.move (.t p0)), (nat_lit 0), (nat_lit 2), (nat_lit 0)⟩, ⟨(some (.r (.r (.l (.r (.l p1)))))), none, (.move (.t (.l (.l p2)))), (nat_lit 0), (nat_lit 4), (nat_lit 0)⟩, ⟨(some (.l (.l (.r (.r (.l p1)))))), none, (.idxS (nat_lit 1) (.t (.l (.r (.l (.r (.l p1)))))) (.t (.r (.r (.l (.r (.l p1))))))), (nat_lit 0), (nat_lit 8), (nat_lit 6)⟩, ⟨(some (.r (.l (.r (.r (.l p1)))))), none, (.load1 (.t (.l (.l (.r (.r (.l p1))))))), (nat_lit 2), (nat_lit 16), (nat_lit 14)⟩, ⟨(some (.l (.r (.r (.r (.l p1)))))), none, (.move (.t p0)), (nat_lit 0), (nat_lit 32), (nat_lit 0)⟩, ⟨(some (.r (.r (.r (.r (.l p1)))))), none, (.move (.t (.l (.l p2)))), (nat_lit 0), (nat_lit 64), (nat_lit 0)⟩, ⟨(some (.l (.l (.l (.l (.r p1)))))), none, (.bin .sub (.t (.r (.r (.r (.r (.l p1)))))) (.c (.sc (.int .i64 (.ofNat (nat_lit 1)))))), (nat_lit 0), (nat_lit 128), (nat_lit 64)⟩, ⟨(some (.r (.l (.l (.l (.r p1)))))), none, (.idxS (nat_lit 1) (.t (.l (.r (.r (.r (.l p1)))))) (.t (.l (.l (.l (.l (.r p1))))))), (nat_lit 0), (nat_lit 256), (nat_lit 224)⟩, ⟨(some (.l (.r (.l (.l (.r p1)))))), none, (.load1 (.t (.r (.l (.l (.l (.r p1))))))), (nat_lit 2), (nat_lit 512), (nat_lit 480)⟩, ⟨(some (.r (.r (.l (.l (.r p1)))))), none, (.more (.more (.more (.callV (.t (.r (.l (.l (.r (.l p1)))))) [(.t (.r (.l (.r (.r (.l p1)))))), (.t (.l (.r (.l (.l (.r p1))))))])))), (nat_lit 3), (nat_lit 1024), (nat_lit 1023)⟩, ⟨(some (.l (.l (.r (.l (.r p1)))))), none, (.bin .lss (.t (.r (.r (.l (.l (.r p1)))))) (.c (.sc (.int .i64 (.ofNat (nat_lit 0)))))), (nat_lit 0), (nat_lit 2048), (nat_lit 2047)⟩, ⟨(some (.r (.l (.r (.l (.r p1)))))), none, (.more (.more (.more (.not (.t (.l (.l (.r (.l (.r p1)))))))))), (nat_lit 0), (nat_lit 4096), (nat_lit 4095)⟩] [(.r (.l (.r (.l (.r p1)))))] r74x14 := by
  intro call ρ st K
  kernel_rfl
noncomputable def r74x15 : RF := fun call ρ st K => (fun n0 mk => (fun v st => (fun v0 mk st => (fun v st => (fun v1 mk st => (fun v st => (fun v2 mk st => (fun v st => (fun v3 mk st => binK .sub v3 (i6 1) (fun v => (fun v st => (fun v4 mk st => (fun v st => (fun v5 mk st => (fun v st => (fun v6 mk st => binK .sub v6 (i6 1) (fun v => (fun v st => (fun v7 mk st => ixs (nat_lit 1) v5 v7 (fun v => (fun v st => (fun v8 mk st => dw2 n0 mk (nat_lit 512) (nat_lit 480) v8 (fun q => ld1 st v8 (fun v => (q) v st)) (fun v9 mk st => (fun v st => (fun v10 mk st => (fun v st => (fun v11 mk st => ixs (nat_lit 1) v10 v11 (fun v => (fun v st => (fun v12 mk st => dw2 n0 mk (nat_lit 8192) (nat_lit 7168) v12 (fun q => ld1 st v12 (fun v => (q) v st)) (fun v13 mk st => ixs (nat_lit 1) v0 v1 (fun v => (fun v st => (fun v14 mk st => dw4 n0 mk (nat_lit 32768) (nat_lit 32739) v14 (fun q => sto st (nat_lit 1) v14 v9 ((q) undefV)) (fun _ mk st => ixs (nat_lit 1) v2 v4 (fun v => (fun v st => (fun v16 mk st => dw4 n0 mk (nat_lit 131072) (nat_lit 131071) v16 (fun q => sto st (nat_lit 1) v16 v13 ((q) undefV)) (fun _ mk st => K [] st)) v mk st) v st))) v mk st) v st))) v mk st) v st)) v mk st) (ρ (.l (.l p2))) st) v mk st) (ρ p0) st)) v mk st) v st)) v mk st) v st)) v mk st) (ρ (.l (.l p2))) st) v mk st) (ρ p0) st) v mk st) v st)) v mk st) (ρ (.l (.l p2))) st) v mk st) (ρ p0) st) v mk st) (ρ (.l (.l p2))) st) v mk st) (ρ p0) st) st.next mk0
theorem h74x15 : DrwOk [⟨(some (.l (.r (.r (.l (.r p1)))))), none, (.move (.t p0)), (nat_lit 0), (nat_lit 1), (nat_lit 0)⟩, ⟨(some (.r (.r (.r (.l (.r p1)))))), none, (.move (.t (.l (.l p2)))), (nat_lit 0), (nat_lit 2), (nat_lit 0)⟩, ⟨(some (.l (.l (.l (.r (.r p1)))))), none, (.move (.t p0)), (nat_lit 0), (nat_lit 4), (nat_lit 0)⟩, ⟨(some (.r (.l (.l (.r (.r p1)))))), none, (.move (.t (.l (.l p2)))), (nat_lit 0), (nat_lit 8), (nat_lit 0)⟩, ⟨(some (.l (.r (.l (.r (.r p1)))))), none, (.bin .sub (.t (.r (.l (.l (.r (.r p1)))))) (.c (.sc (.int .i64 (.ofNat (nat_lit 1)))))), (nat_lit 0), (nat_lit 16), (nat_lit 8)⟩, ⟨(some (.r (.r (.l (.r (.r p1)))))), none, (.move (.t p0)), (nat_lit 0), (nat_lit 32), (nat_lit 0)⟩, ⟨(some (.l (.l (.r (.r (.r p1)))))), none, (.move (.t (.l (.l p2)))), (nat_lit 0), (nat_lit 64), (nat_lit 0)⟩, ⟨(some (.r (.l (.r (.r (.r p1)))))), none, (.bin .sub (.t (.l (.l (.r (.r (.r p1)))))) (.c (.sc (.int .i64 (.ofNat (nat_lit 1)))))), (nat_lit 0), (nat_lit 128), (nat_lit 64)⟩, ⟨(some (.l (.r (.r (.r (.r p1)))))), none, (.idxS (nat_lit 1) (.t (.r (.r (.l (.r (.r p1)))))) (.t (.r (.l (.r (.r (.r p1))))))), (nat_lit 0), (nat_lit 256), (nat_lit 224)⟩, ⟨(some (.r (.r (.r (.r (.r p1)))))), none, (.load1 (.t (.l (.r (.r (.r (.r p1))))))), (nat_lit 2), (nat_lit 512), (nat_lit 480)⟩, ⟨(some (.l (.l (.l (.l (.l p2)))))), none, (.move (.t p0)), (nat_lit 0), (nat_lit 1024), (nat_lit 0)⟩, ⟨(some (.r (.l (.l (.l (.l p2)))))), none, (.move (.t (.l (.l p2)))), (nat_lit 0), (nat_lit 2048), (nat_lit 0)⟩, ⟨(some (.l (.r (.l (.l (.l p2)))))), none, (.idxS (nat_lit 1) (.t (.l (.l (.l (.l (.l p2)))))) (.t (.r (.l (.l (.l (.l p2))))))), (nat_lit 0), (nat_lit 4096), (nat_lit 3072)⟩, ⟨(some (.r (.r (.l (.l (.l p2)))))), none, (.load1 (.t (.l (.r (.l (.l (.l p2))))))), (nat_lit 2), (nat_lit 8192), (nat_lit 7168)⟩, ⟨(some (.l (.l (.r (.l (.l p2)))))), none, (.idxS (nat_lit 1) (.t (.l (.r (.r (.l (.r p1)))))) (.t (.r (.r (.r (.l (.r p1))))))), (nat_lit 0), (nat_lit 16384), (nat_lit 16355)⟩, ⟨none, none, (.more (.store (nat_lit 1) (.t (.l (.l (.r (.l (.l p2)))))) (.t (.r (.r (.r (.r (.r p1)))))))), (nat_lit 4), (nat_lit 32768), (nat_lit 32739)⟩, ⟨(some (.r (.l (.r (.l (.l p2)))))), none, (.idxS (nat_lit 1) (.t (.l (.l (.l (.r (.r p1)))))) (.t (.l (.r (.l (.r (.r p1))))))), (nat_lit 0), (nat_lit 65536), (nat_lit 65535)⟩, ⟨none, none, (.more (.store (nat_lit 1) (.t (.r (.l (.r (.l (.l p2)))))) (.t (.r (.r (.l (.l (.l p2)))))))), (nat_lit 4), (nat_lit 131072), (nat_lit 131071)⟩] [] r74x15 := by
  intro call ρ st K
  kernel_rfl
noncomputable def r74x16 : RF := fun call ρ st K => binK .sub (ρ (.l (.l p2))) (i6 1) (fun v => (fun v0 st => K [v0] st) v st)
theorem h74x16 : RegOk [⟨(some (.r (.r (.r (.l (.l p1)))))), none, (.move (.t (.l (.l p2))))⟩, ⟨(some (.l (.l (.l (.r (.l p1)))))), none, (.bin .sub (.t (.r (.r (.r (.l (.l p1)))))) (.c (.sc (.int .i64 (.ofNat (nat_lit 1))))))⟩, ⟨(some (.l (.l p2))), none, (.move (.t (.l (.l (.l (.r (.l p1)))))))⟩] [(.l (.l p2))] r74x16 := by
  intro call ρ st K
  kernel_rfl
noncomputable def r74x17 : RF := fun call ρ st K => binK .sub (ρ p2) (ρ (.l (.r p1))) (fun v => (fun v0 st => binK .geq v0 (i6 2) (fun v => (fun v1 st => K [v1] st) v st)) v st)
theorem h74x17 : RegOk [⟨(some (.l (.r (.r (.l (.l p2)))))), none, (.move (.t p2))⟩, ⟨(some (.r (.r (.r (.l (.l p2)))))), none, (.move (.t (.l (.r p1))))⟩, ⟨(some (.l (.l (.l (.r (.l p2)))))), none, (.bin .sub (.t (.l (.r (.r (.l (.l p2)))))) (.t (.r (.r (.r (.l (.l p2)))))))⟩, ⟨(some (.r (.l (.l (.r (.l p2)))))), none, (.bin .geq (.t (.l (.l (.l (.r (.l p2)))))) (.c (.sc (.int .i64 (.ofNat (nat_lit 2))))))⟩] [(.r (.l (.l (.r (.l p2)))))] r74x17 := by
  intro call ρ st K
  kernel_rfl
noncomputable def r74x18 : RF := fun call ρ st K => binK .add (ρ (.l (.r p1))) (i6 1) (fun v => (fun v0 st => K [v0] st) v st)
theorem h74x18 : RegOk [⟨(some (.l (.r (.l (.r (.l p2)))))), none, (.move (.t (.l (.r p1))))⟩, ⟨(some (.r (.r (.l (.r (.l p2)))))), none, (.bin .add (.t (.l (.r (.l (.r (.l p2)))))) (.c (.sc (.int .i64 (.ofNat (nat_lit 1))))))⟩, ⟨(some (.r (.l p2))), none, (.move (.t (.r (.r (.l (.r (.l p2)))))))⟩] [(.r (.l p2))] r74x18 := by
  intro call ρ st K
  kernel_rfl
noncomputable def r74x19 : RF := fun call ρ st K => binK .lss (ρ (.r (.l p2))) (ρ p2) (fun v => (fun v0 st => K [v0] st) v st)
theorem h74x19 : RegOk [⟨(some (.l (.l (.r (.r (.l p2)))))), none, (.move (.t (.r (.l p2))))⟩, ⟨(some (.r (.l (.r (.r (.l p2)))))), none, (.move (.t p2))⟩, ⟨(some (.l (.r (.r (.r (.l p2)))))), none, (.bin .lss (.t (.l (.l (.r (.r (.l p2)))))) (.t (.r (.l (.r (.r (.l p2)))))))⟩] [(.l (.r (.r (.r (.l p2)))))] r74x19 := by
  intro call ρ st K
  kernel_rfl
noncomputable def r74x20 : RF := fun call ρ st K => (fun n0 mk => (fun v st => (fun v0 mk st => (fun v st => (fun v1 mk st => (fun v st => (fun v2 mk st => ixs (nat_lit 1) v1 v2 (fun v => (fun v st => (fun v3 mk st => dw2 n0 mk (nat_lit 16) (nat_lit 14) v3 (fun q => ld1 st v3 (fun v => (q) v st)) (fun v4 mk st => (fun v st => (fun v5 mk st => (fun v st => (fun v6 mk st => binK .sub v6 (i6 1) (fun v => (fun v st => (fun v7 mk st => ixs (nat_lit 1) v5 v7 (fun v => (fun v st => (fun v8 mk st => dw2 n0 mk (nat_lit 512) (nat_lit 480) v8 (fun q => ld1 st v8 (fun v => (q) v st)) (fun v9 mk st => dw3 mk (nat_lit 1024) (nat_lit 1023) st (fun st q => h_op4_callV (.c v0) [(.c v4), (.c v9)] call ρ st (q)) (fun v10 mk st => binK .lss v10 (i6 0) (fun v => (fun v st => (fun v11 mk st => nott v11 (fun v => (fun v st => (fun v12 mk st => K [v12] st) v mk st) v st)) v mk st) v st)))) v mk st) v st)) v mk st) v st)) v mk st) (ρ (.r (.l p2))) st) v mk st) (ρ p0) st)) v mk st) v st)) v mk st) (ρ (.r (.l p2))) st) v mk st) (ρ p0) st) v mk st) (ρ (.l p1)) st) st.next mk0
theorem h74x20 : DrwOk [⟨(some (.r (.l (.l (.l (.r p2)))))), none, (.move (.t (.l p1))), (nat_lit 0), (nat_lit 1), (nat_lit 0)⟩, ⟨(some (.l (.r (.l (.l (.r p2)))))), none, (.move (.t p0)), (nat_lit 0), (nat_lit 2), (nat_lit 0)⟩, ⟨(some (.r (.r (.l (.l (.r p2)))))), none, (.move (.t (.r (.l p2)))), (nat_lit 0), (nat_lit 4), (nat_lit 0)⟩, ⟨(some (.l (.l (.r (.l (.r p2)))))), none, (.idxS (nat_lit 1) (.t (.l (.r (.l (.l (.r p2)))))) (.t (.r (.r (.l (.l (.r p2))))))), (nat_lit 0), (nat_lit 8), (nat_lit 6)⟩, ⟨(some (.r (.l (.r (.l (.r p2)))))), none, (.load1 (.t (.l (.l (.r (.l (.r p2))))))), (nat_lit 2), (nat_lit 16), (nat_lit 14)⟩, ⟨(some (.l (.r (.r (.l (.r p2)))))), none, (.move (.t p0)), (nat_lit 0), (nat_lit 32), (nat_lit 0)⟩, ⟨(some (.r (.r (.r (.l (.r p2)))))), none, (.move (.t (.r (.l p2)))), (nat_lit 0), (nat_lit 64), (nat_lit 0)⟩, ⟨(some (.l (.l (.l (.r (.r p2)))))), none, (.bin .sub (.t (.r (.r (.r (.l (.r p2)))))) (.c (.sc (.int .i64 (.ofNat (nat_lit 1)))))), (nat_lit 0), (nat_lit 128), (nat_lit 64)⟩, ⟨(some (.r (.l (.l (.r (.r p2)))))), none, (.idxS (nat_lit 1) (.t (.l (.r (.r (.l (.r p2)))))) (.t (.l (.l (.l (.r (.r p2))))))), (nat_lit 0), (nat_lit 256), (nat_lit 224)⟩, ⟨(some (.l (.r (.l (.r (.r p2)))))), none, (.load1 (.t (.r (.l (.l (.r (.r p2))))))), (nat_lit 2), (nat_lit 512), (nat_lit 480)⟩, ⟨(some (.r (.r (.l (.r (.r p2)))))), none, (.more (.more (.more (.callV (.t (.r (.l (.l (.l (.r p2)))))) [(.t (.r (.l (.r (.l (.r p2)))))), (.t (.l (.r (.l (.r (.r p2))))))])))), (nat_lit 3), (nat_lit 1024), (nat_lit 1023)⟩, ⟨(some (.l (.l (.r (.r (.r p2)))))), none, (.bin .lss (.t (.r (.r (.l (.r (.r p2)))))) (.c (.sc (.int .i64 (.ofNat (nat_lit 0)))))), (nat_lit 0), (nat_lit 2048), (nat_lit 2047)⟩, ⟨(some (.r (.l (.r (.r (.r p2)))))), none, (.more (.more (.more (.not (.t (.l (.l (.r (.r (.r p2)))))))))), (nat_lit 0), (nat_lit 4096), (nat_lit 4095)⟩] [(.r (.l (.r (.r (.r p2)))))] r74x20 := by
  intro call ρ st K
  kernel_rfl
noncomputable def r74x21 : RF := fun call ρ st K => (fun n0 mk => (fun v st => (fun v0 mk st => (fun v st => (fun v1 mk st => (fun v st => (fun v2 mk st => (fun v st => (fun v3 mk st => binK .sub v3 (i6 1) (fun v => (fun v st => (fun v4 mk st => (fun v st => (fun v5 mk st => (fun v st => (fun v6 mk st => binK .sub v6 (i6 1) (fun v => (fun v st => (fun v7 mk st => ixs (nat_lit 1) v5 v7 (fun v => (fun v st => (fun v8 mk st => dw2 n0 mk (nat_lit 512) (nat_lit 480) v8 (fun q => ld1 st v8 (fun v => (q) v st)) (fun v9 mk st => (fun v st => (fun v10 mk st => (fun v st => (fun v11 mk st => ixs (nat_lit 1) v10 v11 (fun v => (fun v st => (fun v12 mk st => dw2 n0 mk (nat_lit 8192) (nat_lit 7168) v12 (fun q => ld1 st v12 (fun v => (q) v st)) (fun v13 mk st => ixs (nat_lit 1) v0 v1 (fun v => (fun v st => (fun v14 mk st => dw4 n0 mk (nat_lit 32768) (nat_lit 32739) v14 (fun q => sto st (nat_lit 1) v14 v9 ((q) undefV)) (fun _ mk st => ixs (nat_lit 1) v2 v4 (fun v => (fun v st => (fun v16 mk st => dw4 n0 mk (nat_lit 131072) (nat_lit 131071) v16 (fun q => sto st (nat_lit 1) v16 v13 ((q) undefV)) (fun _ mk st => K [] st)) v mk st) v st))) v mk st) v st))) v mk st) v st)) v mk st) (ρ (.r (.l p2))) st) v mk st) (ρ p0) st)) v mk st) v st)) v mk st) v st)) v mk st) (ρ (.r (.l p2))) st) v mk st) (ρ p0) st) v mk st) v st)) v mk st) (ρ (.r (.l p2))) st) v mk st) (ρ p0) st) v mk st) (ρ (.r (.l p2))) st) v mk st) (ρ p0) st) st.next mk0
theorem h74x21 : DrwOk [⟨(some (.l (.r (.r (.r (.r p2)))))), none, (.move (.t p0)), (nat_lit 0), (nat_lit 1), (nat_lit 0)⟩, ⟨(some (.r (.r (.r (.r (.r p2)))))), none, (.move (.t (.r (.l p2)))), (nat_lit 0), (nat_lit 2), (nat_lit 0)⟩, ⟨(some (.l (.l (.l (.l (.l (.l p1))))))), none, (.move (.t p0)), (nat_lit 0), (nat_lit 4), (nat_lit 0)⟩, ⟨(some (.r (.l (.l (.l (.l (.l p1))))))), none, (.move (.t (.r (.l p2)))), (nat_lit 0), (nat_lit 8), (nat_lit 0)⟩, ⟨(some (.l (.r (.l (.l (.l (.l p1))))))), none, (.bin .sub (.t (.r (.l (.l (.l (.l (.l p1))))))) (.c (.sc (.int .i64 (.ofNat (nat_lit 1)))))), (nat_lit 0), (nat_lit 16), (nat_lit 8)⟩, ⟨(some (.r (.r (.l (.l (.l (.l p1))))))), none, (.move (.t p0)), (nat_lit 0), (nat_lit 32), (nat_lit 0)⟩, ⟨(some (.l (.l (.r (.l (.l (.l p1))))))), none, (.move (.t (.r (.l p2)))), (nat_lit 0), (nat_lit 64), (nat_lit 0)⟩, ⟨(some (.r (.l (.r (.l (.l (.l p1))))))), none, (.bin .sub (.t (.l (.l (.r (.l (.l (.l p1))))))) (.c (.sc (.int .i64 (.ofNat (nat_lit 1)))))), (nat_lit 0), (nat_lit 128), (nat_lit 64)⟩, ⟨(some (.l (.r (.r (.l (.l (.l p1))))))), none, (.idxS (nat_lit 1) (.t (.r (.r (.l (.l (.l (.l p1))))))) (.t (.r (.l (.r (.l (.l (.l p1)))))))), (nat_lit 0), (nat_lit 256), (nat_lit 224)⟩, ⟨(some (.r (.r (.r (.l (.l (.l p1))))))), none, (.load1 (.t (.l (.r (.r (.l (.l (.l p1)))))))), (nat_lit 2), (nat_lit 512), (nat_lit 480)⟩, ⟨(some (.l (.l (.l (.r (.l (.l p1))))))), none, (.move (.t p0)), (nat_lit 0), (nat_lit 1024), (nat_lit 0)⟩, ⟨(some (.r (.l (.l (.r (.l (.l p1))))))), none, (.move (.t (.r (.l p2)))), (nat_lit 0), (nat_lit 2048), (nat_lit 0)⟩, ⟨(some (.l (.r (.l (.r (.l (.l p1))))))), none, (.idxS (nat_lit 1) (.t (.l (.l (.l (.r (.l (.l p1))))))) (.t (.r (.l (.l (.r (.l (.l p1)))))))), (nat_lit 0), (nat_lit 4096), (nat_lit 3072)⟩, ⟨(some (.r (.r (.l (.r (.l (.l p1))))))), none, (.load1 (.t (.l (.r (.l (.r (.l (.l p1)))))))), (nat_lit 2), (nat_lit 8192), (nat_lit 7168)⟩, ⟨(some (.l (.l (.r (.r (.l (.l p1))))))), none, (.idxS (nat_lit 1) (.t (.l (.r (.r (.r (.r p2)))))) (.t (.r (.r (.r (.r (.r p2))))))), (nat_lit 0), (nat_lit 16384), (nat_lit 16355)⟩, ⟨none, none, (.more (.store (nat_lit 1) (.t (.l (.l (.r (.r (.l (.l p1))))))) (.t (.r (.r (.r (.l (.l (.l p1))))))))), (nat_lit 4), (nat_lit 32768), (nat_lit 32739)⟩, ⟨(some (.r (.l (.r (.r (.l (.l p1))))))), none, (.idxS (nat_lit 1) (.t (.l (.l (.l (.l (.l (.l p1))))))) (.t (.l (.r (.l (.l (.l (.l p1)))))))), (nat_lit 0), (nat_lit 65536), (nat_lit 65535)⟩, ⟨none, none, (.more (.store (nat_lit 1) (.t (.r (.l (.r (.r (.l (.l p1))))))) (.t (.r (.r (.l (.r (.l (.l p1))))))))), (nat_lit 4), (nat_lit 131072), (nat_lit 131071)⟩] [] r74x21 := by
  intro call ρ st K
  kernel_rfl
noncomputable def r74x22 : RF := fun call ρ st K => binK .add (ρ (.r (.l p2))) (i6 1) (fun v => (fun v0 st => K [v0] st) v st)
theorem h74x22 : RegOk [⟨(some (.r (.r (.r (.r (.l p2)))))), none, (.move (.t (.r (.l p2))))⟩, ⟨(some (.l (.l (.l (.l (.r p2)))))), none, (.bin .add (.t (.r (.r (.r (.r (.l p2)))))) (.c (.sc (.int .i64 (.ofNat (nat_lit 1))))))⟩, ⟨(some (.r (.l p2))), none, (.move (.t (.l (.l (.l (.l (.r p2)))))))⟩] [(.r (.l p2))] r74x22 := by
  intro call ρ st K
  kernel_rfl
noncomputable def r74x23 : RF := fun call ρ st K => binK .add (ρ (.r (.r p1))) (i6 1) (fun v => (fun v0 st => K [v0] st) v st)
theorem h74x23 : RegOk [⟨(some (.l (.r (.l p1)))), none, (.move (.t (.r (.r p1))))⟩, ⟨(some (.r (.r (.l p1)))), none, (.bin .add (.t (.l (.r (.l p1)))) (.c (.sc (.int .i64 (.ofNat (nat_lit 1))))))⟩, ⟨(some (.r (.r p1))), none, (.move (.t (.r (.r (.l p1)))))⟩] [(.r (.r p1))] r74x23 := by
  intro call ρ st K
  kernel_rfl
noncomputable def r74x24 : RF := fun call ρ st K => K [(.sc (.bool false))] st
theorem h74x24 : RegOk [⟨(some (.r (.l p1))), none, (.move (.c (.sc (.bool false))))⟩] [(.r (.l p1))] r74x24 := by
  intro call ρ st K
  kernel_rfl
/- slices.partialInsertionSortCmpFunc[int] -/
noncomputable def cf74 : HF := ⟨(.seq (.reg _ _ _ h74x0)
 (.seq (.reg _ _ _ h74x1)
 (.seq (.seq (.reg _ _ _ h74x2)
 (.block (nat_lit 0) (.loop (.seq (.seq (.reg _ _ _ h74x3)
 (.cond (.t (.r (.l (.l p1)))) .skip
 (.exit (nat_lit 0))))
 (.seq (.block (nat_lit 1) (.seq (.block (nat_lit 2) (.loop (.seq (.seq (.drw _ _ _ h74x4)
 (.cond (.t (.r (.l (.r (.l p1))))) .skip
 (.exit (nat_lit 2))))
 (.block (nat_lit 3) (.reg _ _ _ h74x5)))))
 (.seq (.seq (.reg _ _ _ h74x6)
 (.cond (.t (.l (.r (.l (.r p1))))) (.seq (.reg _ _ _ h74x7)
 .ret)
 .skip))
 (.seq (.seq (.reg _ _ _ h74x8)
 (.cond (.t (.l (.r (.r (.r p1))))) (.seq (.reg _ _ _ h74x9)
 .ret)
 .skip))
 (.seq (.drw _ _ _ h74x10)
 (.seq (.seq (.reg _ _ _ h74x11)
 (.cond (.t (.l (.r (.l (.l (.l p1)))))) (.seq (.reg _ _ _ h74x12)
 (.block (nat_lit 4) (.loop (.seq (.seq (.reg _ _ _ h74x13)
 (.cond (.t (.l (.r (.r (.l (.l p1)))))) .skip
 (.exit (nat_lit 4))))
 (.seq (.block (nat_lit 5) (.seq (.seq (.drw _ _ _ h74x14)
 (.cond (.t (.r (.l (.r (.l (.r p1)))))) (.exit (nat_lit 4))
 .skip))
 (.drw _ _ _ h74x15)))
 (.reg _ _ _ h74x16))))))
 .skip))
 (.seq (.reg _ _ _ h74x17)
 (.cond (.t (.r (.l (.l (.r (.l p2)))))) (.seq (.reg _ _ _ h74x18)
 (.block (nat_lit 6) (.loop (.seq (.seq (.reg _ _ _ h74x19)
 (.cond (.t (.l (.r (.r (.r (.l p2)))))) .skip
 (.exit (nat_lit 6))))
 (.seq (.block (nat_lit 7) (.seq (.seq (.drw _ _ _ h74x20)
 (.cond (.t (.r (.l (.r (.r (.r p2)))))) (.exit (nat_lit 6))
 .skip))
 (.drw _ _ _ h74x21)))
 (.reg _ _ _ h74x22))))))
 .skip))))))))
 (.reg _ _ _ h74x23))))))
 (.seq (.reg _ _ _ h74x24)
 .ret)))), [(.tmp (.r (.l p1)))], [p0, p1, p2, (.l p1)], [(.l (.r p2)), (.r (.r p2)), (.l (.l (.l p1))), (.l (.l (.r p1))), (.r (.l (.r p1))), (.l (.r (.r p1))), (.r (.r (.r p1))), (.l (.l (.l p2))), (.r (.l (.l p2))), (.l (.r (.l p2))), (.r (.r (.l p2))), (.l (.l (.r p2))), (.r (.l (.r p2))), (.l (.r (.r p2))), (.r (.r (.r p2))), (.l (.l (.l (.l p1)))), (.r (.l (.l (.l p1)))), (.l (.r (.l (.l p1)))), (.r (.r (.l (.l p1)))), (.l (.l (.r (.l p1)))), (.l (.r (.r (.l p1)))), (.r (.r (.r (.l p1)))), (.l (.l (.l (.r p1)))), (.r (.l (.l (.r p1)))), (.r (.r (.l (.r p1)))), (.l (.l (.r (.r p1)))), (.r (.l (.r (.r p1)))), (.r (.r (.r (.r p1)))), (.l (.l (.l (.l p2)))), (.r (.l (.l (.l p2)))), (.l (.r (.l (.l p2)))), (.r (.r (.l (.l p2)))), (.l (.l (.r (.l p2)))), (.r (.l (.r (.l p2)))), (.l (.r (.r (.l p2)))), (.r (.r (.r (.l p2)))), (.l (.l (.l (.r p2)))), (.r (.l (.l (.r p2)))), (.l (.r (.l (.r p2)))), (.r (.r (.l (.r p2)))), (.l (.l (.r (.r p2)))), (.r (.l (.r (.r p2)))), (.l (.r (.r (.r p2)))), (.r (.r (.r (.r p2)))), (.l (.l (.l (.l (.l p1))))), (.r (.l (.l (.l (.l p1))))), (.r (.r (.l (.l (.l p1))))), (.l (.l (.r (.l (.l p1))))), (.r (.l (.r (.l (.l p1))))), (.r (.l (.l (.r (.l p1))))), (.l (.r (.l (.r (.l p1))))), (.r (.r (.l (.r (.l p1))))), (.l (.l (.r (.r (.l p1))))), (.r (.l (.r (.r (.l p1))))), (.l (.r (.r (.r (.l p1))))), (.r (.r (.r (.r (.l p1))))), (.l (.l (.l (.l (.r p1))))), (.r (.l (.l (.l (.r p1))))), (.l (.r (.l (.l (.r p1))))), (.r (.r (.l (.l (.r p1))))), (.l (.l (.r (.l (.r p1))))), (.l (.r (.r (.l (.r p1))))), (.r (.r (.r (.l (.r p1))))), (.l (.l (.l (.r (.r p1))))), (.r (.l (.l (.r (.r p1))))), (.l (.r (.l (.r (.r p1))))), (.r (.r (.l (.r (.r p1))))), (.l (.l (.r (.r (.r p1))))), (.r (.l (.r (.r (.r p1))))), (.l (.r (.r (.r (.r p1))))), (.r (.r (.r (.r (.r p1))))), (.l (.l (.l (.l (.l p2))))), (.r (.l (.l (.l (.l p2))))), (.l (.r (.l (.l (.l p2))))), (.r (.r (.l (.l (.l p2))))), (.l (.l (.r (.l (.l p2))))), (.r (.l (.r (.l (.l p2))))), (.r (.r (.r (.l (.l p1))))), (.l (.l (.l (.r (.l p1))))), (.l (.r (.r (.l (.l p2))))), (.r (.r (.r (.l (.l p2))))), (.l (.l (.l (.r (.l p2))))), (.l (.r (.l (.r (.l p2))))), (.r (.r (.l (.r (.l p2))))), (.l (.l (.r (.r (.l p2))))), (.r (.l (.r (.r (.l p2))))), (.r (.l (.l (.l (.r p2))))), (.l (.r (.l (.l (.r p2))))), (.r (.r (.l (.l (.r p2))))), (.l (.l (.r (.l (.r p2))))), (.r (.l (.r (.l (.r p2))))), (.l (.r (.r (.l (.r p2))))), (.r (.r (.r (.l (.r p2))))), (.l (.l (.l (.r (.r p2))))), (.r (.l (.l (.r (.r p2))))), (.l (.r (.l (.r (.r p2))))), (.r (.r (.l (.r (.r p2))))), (.l (.l (.r (.r (.r p2))))), (.l (.r (.r (.r (.r p2))))), (.r (.r (.r (.r (.r p2))))), (.l (.l (.l (.l (.l (.l p1)))))), (.r (.l (.l (.l (.l (.l p1)))))), (.l (.r (.l (.l (.l (.l p1)))))), (.r (.r (.l (.l (.l (.l p1)))))), (.l (.l (.r (.l (.l (.l p1)))))), (.r (.l (.r (.l (.l (.l p1)))))), (.l (.r (.r (.l (.l (.l p1)))))), (.r (.r (.r (.l (.l (.l p1)))))), (.l (.l (.l (.r (.l (.l p1)))))), (.r (.l (.l (.r (.l (.l p1)))))), (.l (.r (.l (.r (.l (.l p1)))))), (.r (.r (.l (.r (.l (.l p1)))))), (.l (.l (.r (.r (.l (.l p1)))))), (.r (.l (.r (.r (.l (.l p1)))))), (.r (.r (.r (.r (.l p2))))), (.l (.l (.l (.l (.r p2))))), (.l (.r (.l p1))), (.r (.r (.l p1)))]⟩
noncomputable def r73x0 : RF := fun call ρ st K => K [(ρ p1)] st
theorem h73x0 : RegOk [⟨(some (.r (.r p1))), none, (.move (.t p1))⟩, ⟨(some (.r (.l p1))), none, (.move (.t (.r (.r p1))))⟩] [(.r (.l p1))] r73x0 := by
  intro call ρ st K
  kernel_rfl
noncomputable def r73x1 : RF := fun call ρ st K => binK .sub (ρ p2) (i6 1) (fun v => (fun v0 st => K [v0] st) v st)
theorem h73x1 : RegOk [⟨(some (.l (.l p2))), none, (.move (.t p2))⟩, ⟨(some (.r (.l p2))), none, (.bin .sub (.t (.l (.l p2))) (.c (.sc (.int .i64 (.ofNat (nat_lit 1))))))⟩, ⟨(some (.l (.r p1))), none, (.move (.t (.r (.l p2))))⟩] [(.l (.r p1))] r73x1 := by
  intro call ρ st K
  kernel_rfl
noncomputable def r73x2 : RF := fun call ρ st K => binK .lss (ρ (.r (.l p1))) (ρ (.l (.r p1))) (fun v => (fun v0 st => K [v0] st) v st)
theorem h73x2 : RegOk [⟨(some (.l (.r p2))), none, (.move (.t (.r (.l p1))))⟩, ⟨(some (.r (.r p2))), none, (.move (.t (.l (.r p1))))⟩, ⟨(some (.l (.l (.l p1)))), none, (.bin .lss (.t (.l (.r p2))) (.t (.r (.r p2))))⟩] [(.l (.l (.l p1)))] r73x2 := by
  intro call ρ st K
  kernel_rfl
noncomputable def r73x3 : RF := fun call ρ st K => (fun n0 mk => (fun v st => (fun v0 mk st => (fun v st => (fun v1 mk st => (fun v st => (fun v2 mk st => (fun v st => (fun v3 mk st => (fun v st => (fun v4 mk st => (fun v st => (fun v5 mk st => ixs (nat_lit 1) v4 v5 (fun v => (fun v st => (fun v6 mk st => dw2 n0 mk (nat_lit 128) (nat_lit 112) v6 (fun q => ld1 st v6 (fun v => (q) v st)) (fun v7 mk st => (fun v st => (fun v8 mk st => (fun v st => (fun v9 mk st => ixs (nat_lit 1) v8 v9 (fun v => (fun v st => (fun v10 mk st => dw2 n0 mk (nat_lit 2048) (nat_lit 1792) v10 (fun q => ld1 st v10 (fun v => (q) v st)) (fun v11 mk st => ixs (nat_lit 1) v0 v1 (fun v => (fun v st => (fun v12 mk st => dw4 n0 mk (nat_lit 8192) (nat_lit 8179) v12 (fun q => sto st (nat_lit 1) v12 v7 ((q) undefV)) (fun _ mk st => ixs (nat_lit 1) v2 v3 (fun v => (fun v st => (fun v14 mk st => dw4 n0 mk (nat_lit 32768) (nat_lit 32767) v14 (fun q => sto st (nat_lit 1) v14 v11 ((q) undefV)) (fun _ mk st => K [] st)) v mk st) v st))) v mk st) v st))) v mk st) v st)) v mk st) (ρ (.r (.l p1))) st) v mk st) (ρ p0) st)) v mk st) v st)) v mk st) (ρ (.l (.r p1))) st) v mk st) (ρ p0) st) v mk st) (ρ (.l (.r p1))) st) v mk st) (ρ p0) st) v mk st) (ρ (.r (.l p1))) st) v mk st) (ρ p0) st) st.next mk0
theorem h73x3 : DrwOk [⟨(some (.r (.l (.l p1)))), none, (.move (.t p0)), (nat_lit 0), (nat_lit 1), (nat_lit 0)⟩, ⟨(some (.l (.r (.l p1)))), none, (.move (.t (.r (.l p1)))), (nat_lit 0), (nat_lit 2), (nat_lit 0)⟩, ⟨(some (.r (.r (.l p1)))), none, (.move (.t p0)), (nat_lit 0), (nat_lit 4), (nat_lit 0)⟩, ⟨(some (.l (.l (.r p1)))), none, (.move (.t (.l (.r p1)))), (nat_lit 0), (nat_lit 8), (nat_lit 0)⟩, ⟨(some (.r (.l (.r p1)))), none, (.move (.t p0)), (nat_lit 0), (nat_lit 16), (nat_lit 0)⟩, ⟨(some (.l (.r (.r p1)))), none, (.move (.t (.l (.r p1)))), (nat_lit 0), (nat_lit 32), (nat_lit 0)⟩, ⟨(some (.r (.r (.r p1)))), none, (.idxS (nat_lit 1) (.t (.r (.l (.r p1)))) (.t (.l (.r (.r p1))))), (nat_lit 0), (nat_lit 64), (nat_lit 48)⟩, ⟨(some (.l (.l (.l p2)))), none, (.load1 (.t (.r (.r (.r p1))))), (nat_lit 2), (nat_lit 128), (nat_lit 112)⟩, ⟨(some (.r (.l (.l p2)))), none, (.move (.t p0)), (nat_lit 0), (nat_lit 256), (nat_lit 0)⟩, ⟨(some (.l (.r (.l p2)))), none, (.move (.t (.r (.l p1)))), (nat_lit 0), (nat_lit 512), (nat_lit 0)⟩, ⟨(some (.r (.r (.l p2)))), none, (.idxS (nat_lit 1) (.t (.r (.l (.l p2)))) (.t (.l (.r (.l p2))))), (nat_lit 0), (nat_lit 1024), (nat_lit 768)⟩, ⟨(some (.l (.l (.r p2)))), none, (.load1 (.t (.r (.r (.l p2))))), (nat_lit 2), (nat_lit 2048), (nat_lit 1792)⟩, ⟨(some (.r (.l (.r p2)))), none, (.idxS (nat_lit 1) (.t (.r (.l (.l p1)))) (.t (.l (.r (.l p1))))), (nat_lit 0), (nat_lit 4096), (nat_lit 4083)⟩, ⟨none, none, (.more (.store (nat_lit 1) (.t (.r (.l (.r p2)))) (.t (.l (.l (.l p2)))))), (nat_lit 4), (nat_lit 8192), (nat_lit 8179)⟩, ⟨(some (.l (.r (.r p2)))), none, (.idxS (nat_lit 1) (.t (.r (.r (.l p1)))) (.t (.l (.l (.r p1))))), (nat_lit 0), (nat_lit 16384), (nat_lit 16383)⟩, ⟨none, none, (.more (.store (nat_lit 1) (.t (.l (.r (.r p2)))) (.t (.l (.l (.r p2)))))), (nat_lit 4), (nat_lit 32768), (nat_lit 32767)⟩] [] r73x3 := by
  intro call ρ st K
  kernel_rfl
noncomputable def r73x4 : RF := fun call ρ st K => binK .add (ρ (.r (.l p1))) (i6 1) (fun v => (fun v0 st => K [v0] st) v st)
theorem h73x4 : RegOk [⟨(some (.r (.r (.r p2)))), none, (.move (.t (.r (.l p1))))⟩, ⟨(some (.l (.l (.l (.l p1))))), none, (.bin .add (.t (.r (.r (.r p2)))) (.c (.sc (.int .i64 (.ofNat (nat_lit 1))))))⟩, ⟨(some (.r (.l p1))), none, (.move (.t (.l (.l (.l (.l p1))))))⟩] [(.r (.l p1))] r73x4 := by
  intro call ρ st K
  kernel_rfl
noncomputable def r73x5 : RF := fun call ρ st K => binK .sub (ρ (.l (.r p1))) (i6 1) (fun v => (fun v0 st => K [v0] st) v st)
theorem h73x5 : RegOk [⟨(some (.r (.l (.l (.l p1))))), none, (.move (.t (.l (.r p1))))⟩, ⟨(some (.l (.r (.l (.l p1))))), none, (.bin .sub (.t (.r (.l (.l (.l p1))))) (.c (.sc (.int .i64 (.ofNat (nat_lit 1))))))⟩, ⟨(some (.l (.r p1))), none, (.move (.t (.l (.r (.l (.l p1))))))⟩] [(.l (.r p1))] r73x5 := by
  intro call ρ st K
  kernel_rfl
/- slices.reverseRangeCmpFunc[int] -/
noncomputable def cf73 : HF := ⟨(.seq (.reg _ _ _ h73x0)
 (.seq (.reg _ _ _ h73x1)
 (.block (nat_lit 0) (.loop (.seq (.seq (.reg _ _ _ h73x2)
 (.cond (.t (.l (.l (.l p1)))) .skip
 (.exit (nat_lit 0))))
 (.block (nat_lit 1) (.seq (.drw _ _ _ h73x3)
 (.seq (.reg _ _ _ h73x4)
 (.reg _ _ _ h73x5))))))))), [], [p0, p1, p2, (.l p1)], [(.r (.r p1)), (.l (.l p2)), (.r (.l p2)), (.l (.r p2)), (.r (.r p2)), (.r (.l (.l p1))), (.l (.r (.l p1))), (.r (.r (.l p1))), (.l (.l (.r p1))), (.r (.l (.r p1))), (.l (.r (.r p1))), (.r (.r (.r p1))), (.l (.l (.l p2))), (.r (.l (.l p2))), (.l (.r (.l p2))), (.r (.r (.l p2))), (.l (.l (.r p2))), (.r (.l (.r p2))), (.l (.r (.r p2))), (.r (.r (.r p2))), (.l (.l (.l (.l p1)))), (.r (.l (.l (.l p1)))), (.l (.r (.l (.l p1))))]⟩
noncomputable def r72x0 : RF := fun call ρ st K => K [(i6 0), (i6 0)] st
theorem h72x0 : RegOk [⟨(some (.r (.l p1))), none, (.move (.c (.sc (.int .i64 (.ofNat (nat_lit 0))))))⟩, ⟨(some (.l (.r p1))), none, (.move (.c (.sc (.int .i64 (.ofNat (nat_lit 0))))))⟩] [(.r (.l p1)), (.l (.r p1))] r72x0 := by
  intro call ρ st K
  kernel_rfl
noncomputable def r72x1 : RF := fun call ρ st K => binK .sub (ρ p2) (ρ p1) (fun v => (fun v0 st => K [v0] st) v st)
theorem h72x1 : RegOk [⟨(some (.l (.l (.l p1)))), none, (.move (.t p2))⟩, ⟨(some (.r (.l (.l p1)))), none, (.move (.t p1))⟩, ⟨(some (.l (.r (.l p1)))), none, (.bin .sub (.t (.l (.l (.l p1)))) (.t (.r (.l (.l p1)))))⟩, ⟨(some (.r (.r p1))), none, (.move (.t (.l (.r (.l p1)))))⟩] [(.r (.r p1))] r72x1 := by
  intro call ρ st K
  kernel_rfl
noncomputable def r72x2 : RF := fun call ρ st K => alc st [(.int .i64 (.ofNat (nat_lit 0)))] (fun v0 st => K [v0] st)
theorem h72x2 : RegOk [⟨(some (.l (.l p2))), none, (.more (.alloc [(.int .i64 (.ofNat (nat_lit 0)))]))⟩] [(.l (.l p2))] r72x2 := by
  intro call ρ st K
  kernel_rfl
noncomputable def r72x3 : RF := fun call ρ st K => binK .quo (ρ (.r (.r p1))) (i6 4) (fun v => (fun v0 st => binK .mul v0 (i6 1) (fun v => (fun v1 st => binK .add (ρ p1) v1 (fun v => (fun v2 st => K [v2] st) v st)) v st)) v st)
theorem h72x3 : RegOk [⟨(some (.r (.r (.l p1)))), none, (.move (.t p1))⟩, ⟨(some (.l (.l (.r p1)))), none, (.move (.t (.r (.r p1))))⟩, ⟨(some (.r (.l (.r p1)))), none, (.bin .quo (.t (.l (.l (.r p1)))) (.c (.sc (.int .i64 (.ofNat (nat_lit 4))))))⟩, ⟨(some (.l (.r (.r p1)))), none, (.bin .mul (.t (.r (.l (.r p1)))) (.c (.sc (.int .i64 (.ofNat (nat_lit 1))))))⟩, ⟨(some (.r (.r (.r p1)))), none, (.bin .add (.t (.r (.r (.l p1)))) (.t (.l (.r (.r p1)))))⟩, ⟨(some (.r (.l p2))), none, (.move (.t (.r (.r (.r p1)))))⟩] [(.r (.l p2))] r72x3 := by
  intro call ρ st K
  kernel_rfl
noncomputable def r72x4 : RF := fun call ρ st K => binK .quo (ρ (.r (.r p1))) (i6 4) (fun v => (fun v0 st => binK .mul v0 (i6 2) (fun v => (fun v1 st => binK .add (ρ p1) v1 (fun v => (fun v2 st => K [v2] st) v st)) v st)) v st)
theorem h72x4 : RegOk [⟨(some (.l (.l (.l p2)))), none, (.move (.t p1))⟩, ⟨(some (.r (.l (.l p2)))), none, (.move (.t (.r (.r p1))))⟩, ⟨(some (.l (.r (.l p2)))), none, (.bin .quo (.t (.r (.l (.l p2)))) (.c (.sc (.int .i64 (.ofNat (nat_lit 4))))))⟩, ⟨(some (.r (.r (.l p2)))), none, (.bin .mul (.t (.l (.r (.l p2)))) (.c (.sc (.int .i64 (.ofNat (nat_lit 2))))))⟩, ⟨(some (.l (.l (.r p2)))), none, (.bin .add (.t (.l (.l (.l p2)))) (.t (.r (.r (.l p2)))))⟩, ⟨(some (.l (.r p2))), none, (.move (.t (.l (.l (.r p2)))))⟩] [(.l (.r p2))] r72x4 := by
  intro call ρ st K
  kernel_rfl
noncomputable def r72x5 : RF := fun call ρ st K => binK .quo (ρ (.r (.r p1))) (i6 4) (fun v => (fun v0 st => binK .mul v0 (i6 3) (fun v => (fun v1 st => binK .add (ρ p1) v1 (fun v => (fun v2 st => K [v2] st) v st)) v st)) v st)
theorem h72x5 : RegOk [⟨(some (.r (.l (.r p2)))), none, (.move (.t p1))⟩, ⟨(some (.l (.r (.r p2)))), none, (.move (.t (.r (.r p1))))⟩, ⟨(some (.r (.r (.r p2)))), none, (.bin .quo (.t (.l (.r (.r p2)))) (.c (.sc (.int .i64 (.ofNat (nat_lit 4))))))⟩, ⟨(some (.l (.l (.l (.l p1))))), none, (.bin .mul (.t (.r (.r (.r p2)))) (.c (.sc (.int .i64 (.ofNat (nat_lit 3))))))⟩, ⟨(some (.r (.l (.l (.l p1))))), none, (.bin .add (.t (.r (.l (.r p2)))) (.t (.l (.l (.l (.l p1))))))⟩, ⟨(some (.r (.r p2))), none, (.move (.t (.r (.l (.l (.l p1))))))⟩] [(.r (.r p2))] r72x5 := by
  intro call ρ st K
  kernel_rfl
noncomputable def r72x6 : RF := fun call ρ st K => binK .geq (ρ (.r (.r p1))) (i6 8) (fun v => (fun v0 st => K [v0] st) v st)
theorem h72x6 : RegOk [⟨(some (.l (.r (.l (.l p1))))), none, (.move (.t (.r (.r p1))))⟩, ⟨(some (.r (.r (.l (.l p1))))), none, (.bin .geq (.t (.l (.r (.l (.l p1))))) (.c (.sc (.int .i64 (.ofNat (nat_lit 8))))))⟩] [(.r (.r (.l (.l p1))))] r72x6 := by
  intro call ρ st K
  kernel_rfl
noncomputable def r72x7 : RF := fun call ρ st K => binK .geq (ρ (.r (.r p1))) (i6 50) (fun v => (fun v0 st => K [v0] st) v st)
theorem h72x7 : RegOk [⟨(some (.l (.l (.r (.l p1))))), none, (.move (.t (.r (.r p1))))⟩, ⟨(some (.r (.l (.r (.l p1))))), none, (.bin .geq (.t (.l (.l (.r (.l p1))))) (.c (.sc (.int .i64 (.ofNat (nat_lit 50))))))⟩] [(.r (.l (.r (.l p1))))] r72x7 := by
  intro call ρ st K
  kernel_rfl
noncomputable def r72x8 : RF := fun call ρ st K => call (nat_lit 87) [(ρ p0), (ρ (.r (.l p2))), (ρ (.l (.l p2))), (ρ (.l p1))] st (fun v0 st => K [v0] st)
theorem h72x8 : RegOk [⟨(some (.l (.r (.r (.l p1))))), none, (.move (.t p0))⟩, ⟨(some (.r (.r (.r (.l p1))))), none, (.move (.t (.r (.l p2))))⟩, ⟨(some (.l (.l (.l (.r p1))))), none, (.move (.t (.l p1)))⟩, ⟨(some (.r (.l (.l (.r p1))))), none, (.call (nat_lit 87) [(.t (.l (.r (.r (.l p1))))), (.t (.r (.r (.r (.l p1))))), (.t (.l (.l p2))), (.t (.l (.l (.l (.r p1)))))])⟩, ⟨(some (.r (.l p2))), none, (.move (.t (.r (.l (.l (.r p1))))))⟩] [(.r (.l p2))] r72x8 := by
  intro call ρ st K
  kernel_rfl
noncomputable def r72x9 : RF := fun call ρ st K => call (nat_lit 87) [(ρ p0), (ρ (.l (.r p2))), (ρ (.l (.l p2))), (ρ (.l p1))] st (fun v0 st => K [v0] st)
theorem h72x9 : RegOk [⟨(some (.l (.r (.l (.r p1))))), none, (.move (.t p0))⟩, ⟨(some (.r (.r (.l (.r p1))))), none, (.move (.t (.l (.r p2))))⟩, ⟨(some (.l (.l (.r (.r p1))))), none, (.move (.t (.l p1)))⟩, ⟨(some (.r (.l (.r (.r p1))))), none, (.call (nat_lit 87) [(.t (.l (.r (.l (.r p1))))), (.t (.r (.r (.l (.r p1))))), (.t (.l (.l p2))), (.t (.l (.l (.r (.r p1)))))])⟩, ⟨(some (.l (.r p2))), none, (.move (.t (.r (.l (.r (.r p1))))))⟩] [(.l (.r p2))] r72x9 := by
  intro call ρ st K
  kernel_rfl
noncomputable def r72x10 : RF := fun call ρ st K => call (nat_lit 87) [(ρ p0), (ρ (.r (.r p2))), (ρ (.l (.l p2))), (ρ (.l p1))] st (fun v0 st => K [v0] st)
theorem h72x10 : RegOk [⟨(some (.l (.r (.r (.r p1))))), none, (.move (.t p0))⟩, ⟨(some (.r (.r (.r (.r p1))))), none, (.move (.t (.r (.r p2))))⟩, ⟨(some (.l (.l (.l (.l p2))))), none, (.move (.t (.l p1)))⟩, ⟨(some (.r (.l (.l (.l p2))))), none, (.call (nat_lit 87) [(.t (.l (.r (.r (.r p1))))), (.t (.r (.r (.r (.r p1))))), (.t (.l (.l p2))), (.t (.l (.l (.l (.l p2)))))])⟩, ⟨(some (.r (.r p2))), none, (.move (.t (.r (.l (.l (.l p2))))))⟩] [(.r (.r p2))] r72x10 := by
  intro call ρ st K
  kernel_rfl
noncomputable def r72x11 : RF := fun call ρ st K => call (nat_lit 88) [(ρ p0), (ρ (.r (.l p2))), (ρ (.l (.r p2))), (ρ (.r (.r p2))), (ρ (.l (.l p2))), (ρ (.l p1))] st (fun v0 st => K [v0] st)
theorem h72x11 : RegOk [⟨(some (.l (.r (.l (.l p2))))), none, (.move (.t p0))⟩, ⟨(some (.r (.r (.l (.l p2))))), none, (.move (.t (.r (.l p2))))⟩, ⟨(some (.l (.l (.r (.l p2))))), none, (.move (.t (.l (.r p2))))⟩, ⟨(some (.r (.l (.r (.l p2))))), none, (.move (.t (.r (.r p2))))⟩, ⟨(some (.l (.r (.r (.l p2))))), none, (.move (.t (.l p1)))⟩, ⟨(some (.r (.r (.r (.l p2))))), none, (.call (nat_lit 88) [(.t (.l (.r (.l (.l p2))))), (.t (.r (.r (.l (.l p2))))), (.t (.l (.l (.r (.l p2))))), (.t (.r (.l (.r (.l p2))))), (.t (.l (.l p2))), (.t (.l (.r (.r (.l p2)))))])⟩, ⟨(some (.l (.r p2))), none, (.move (.t (.r (.r (.r (.l p2))))))⟩] [(.l (.r p2))] r72x11 := by
  intro call ρ st K
  kernel_rfl
noncomputable def r72x12 : RF := fun call ρ st K => ld1 st (ρ (.l (.l p2))) (fun v => (fun v0 st => K [v0] st) v st)
theorem h72x12 : RegOk [⟨(some (.l (.l (.l (.r p2))))), none, (.load1 (.t (.l (.l p2))))⟩] [(.l (.l (.l (.r p2))))] r72x12 := by
  intro call ρ st K
  kernel_rfl
noncomputable def r72x13 : RF := fun call ρ st K => binK .eql (ρ (.l (.l (.l (.r p2))))) (i6 0) (fun v => (fun v0 st => K [v0] st) v st)
theorem h72x13 : RegOk [⟨(some (.r (.r (.l (.r p2))))), none, (.bin .eql (.t (.l (.l (.l (.r p2))))) (.c (.sc (.int .i64 (.ofNat (nat_lit 0))))))⟩, ⟨(some (.l (.r (.l (.r p2))))), none, (.move (.t (.r (.r (.l (.r p2))))))⟩] [(.l (.r (.l (.r p2))))] r72x13 := by
  intro call ρ st K
  kernel_rfl
noncomputable def r72x14 : RF := fun call ρ st K => K [(ρ (.l (.r p2))), (i6 1)] st
theorem h72x14 : RegOk [⟨(some (.l (.l (.r (.r p2))))), none, (.move (.t (.l (.r p2))))⟩, ⟨(some (.r (.l p1))), none, (.move (.t (.l (.l (.r (.r p2))))))⟩, ⟨(some (.l (.r p1))), none, (.move (.c (.sc (.int .i64 (.ofNat (nat_lit 1))))))⟩] [(.r (.l p1)), (.l (.r p1))] r72x14 := by
  intro call ρ st K
  kernel_rfl
noncomputable def r72x15 : RF := fun call ρ st K => binK .eql (ρ (.l (.l (.l (.r p2))))) (i6 12) (fun v => (fun v0 st => K [v0] st) v st)
theorem h72x15 : RegOk [⟨(some (.l (.r (.r (.r p2))))), none, (.bin .eql (.t (.l (.l (.l (.r p2))))) (.c (.sc (.int .i64 (.ofNat (nat_lit 12))))))⟩, ⟨(some (.r (.l (.r (.r p2))))), none, (.move (.t (.l (.r (.r (.r p2))))))⟩] [(.r (.l (.r (.r p2))))] r72x15 := by
  intro call ρ st K
  kernel_rfl
noncomputable def r72x16 : RF := fun call ρ st K => K [(ρ (.l (.r p2))), (i6 2)] st
theorem h72x16 : RegOk [⟨(some (.r (.r (.r (.r p2))))), none, (.move (.t (.l (.r p2))))⟩, ⟨(some (.r (.l p1))), none, (.move (.t (.r (.r (.r (.r p2))))))⟩, ⟨(some (.l (.r p1))), none, (.move (.c (.sc (.int .i64 (.ofNat (nat_lit 2))))))⟩] [(.r (.l p1)), (.l (.r p1))] r72x16 := by
  intro call ρ st K
  kernel_rfl
noncomputable def r72x17 : RF := fun call ρ st K => K [(ρ (.l (.r p2))), (i6 0)] st
theorem h72x17 : RegOk [⟨(some (.r (.l (.l (.r p2))))), none, (.move (.t (.l (.r p2))))⟩, ⟨(some (.r (.l p1))), none, (.move (.t (.r (.l (.l (.r p2))))))⟩, ⟨(some (.l (.r p1))), none, (.move (.c (.sc (.int .i64 (.ofNat (nat_lit 0))))))⟩] [(.r (.l p1)), (.l (.r p1))] r72x17 := by
  intro call ρ st K
  kernel_rfl
/- slices.choosePivotCmpFunc[int] -/
noncomputable def cf72 : HF := ⟨(.seq (.reg _ _ _ h72x0)
 (.seq (.reg _ _ _ h72x1)
 (.seq (.reg _ _ _ h72x2)
 (.seq (.reg _ _ _ h72x3)
 (.seq (.reg _ _ _ h72x4)
 (.seq (.reg _ _ _ h72x5)
 (.seq (.seq (.reg _ _ _ h72x6)
 (.cond (.t (.r (.r (.l (.l p1))))) (.seq (.seq (.reg _ _ _ h72x7)
 (.cond (.t (.r (.l (.r (.l p1))))) (.seq (.reg _ _ _ h72x8)
 (.seq (.reg _ _ _ h72x9)
 (.reg _ _ _ h72x10)))
 .skip))
 (.reg _ _ _ h72x11))
 .skip))
 (.seq (.reg _ _ _ h72x12)
 (.block (nat_lit 0) (.seq (.reg _ _ _ h72x13)
 (.cond (.t (.l (.r (.l (.r p2))))) (.seq (.reg _ _ _ h72x14)
 .ret)
 (.seq (.reg _ _ _ h72x15)
 (.cond (.t (.r (.l (.r (.r p2))))) (.seq (.reg _ _ _ h72x16)
 .ret)
 (.seq (.reg _ _ _ h72x17)
 .ret)))))))))))))), [(.tmp (.r (.l p1))), (.tmp (.l (.r p1)))], [p0, p1, p2, (.l p1)], [(.l (.l (.l p1))), (.r (.l (.l p1))), (.l (.r (.l p1))), (.r (.r (.l p1))), (.l (.l (.r p1))), (.r (.l (.r p1))), (.l (.r (.r p1))), (.r (.r (.r p1))), (.l (.l (.l p2))), (.r (.l (.l p2))), (.l (.r (.l p2))), (.r (.r (.l p2))), (.l (.l (.r p2))), (.r (.l (.r p2))), (.l (.r (.r p2))), (.r (.r (.r p2))), (.l (.l (.l (.l p1)))), (.r (.l (.l (.l p1)))), (.l (.r (.l (.l p1)))), (.l (.l (.r (.l p1)))), (.l (.r (.r (.l p1)))), (.r (.r (.r (.l p1)))), (.l (.l (.l (.r p1)))), (.r (.l (.l (.r p1)))), (.l (.r (.l (.r p1)))), (.r (.r (.l (.r p1)))), (.l (.l (.r (.r p1)))), (.r (.l (.r (.r p1)))), (.l (.r (.r (.r p1)))), (.r (.r (.r (.r p1)))), (.l (.l (.l (.l p2)))), (.r (.l (.l (.l p2)))), (.l (.r (.l (.l p2)))), (.r (.r (.l (.l p2)))), (.l (.l (.r (.l p2)))), (.r (.l (.r (.l p2)))), (.l (.r (.r (.l p2)))), (.r (.r (.r (.l p2)))), (.r (.r (.l (.r p2)))), (.l (.l (.r (.r p2)))), (.l (.r (.r (.r p2)))), (.r (.r (.r (.r p2)))), (.r (.l (.l (.r p2))))]⟩
noncomputable def r88x0 : RF := fun call ρ st K => K [(i6 0)] st
theorem h88x0 : RegOk [⟨(some (.r (.l p2))), none, (.move (.c (.sc (.int .i64 (.ofNat (nat_lit 0))))))⟩] [(.r (.l p2))] r88x0 := by
  intro call ρ st K
  kernel_rfl
noncomputable def r88x1 : RF := fun call ρ st K => call (nat_lit 91) [(ρ p0), (ρ p1), (ρ p2), (ρ (.r p1)), (ρ (.l p2))] st (fun v0 st => h_op4_extract (nat_lit 0) (.c v0) call ρ st (fun v1 st => h_op4_extract (nat_lit 1) (.c v0) call ρ st (fun v2 st => K [v1, v2] st)))
theorem h88x1 : RegOk [⟨(some (.r (.r p2))), none, (.move (.t p0))⟩, ⟨(some (.l (.l (.l p1)))), none, (.move (.t p1))⟩, ⟨(some (.r (.l (.l p1)))), none, (.move (.t p2))⟩, ⟨(some (.l (.r (.l p1)))), none, (.move (.t (.r p1)))⟩, ⟨(some (.r (.r (.l p1)))), none, (.move (.t (.l p2)))⟩, ⟨(some (.l (.l (.r p1)))), none, (.call (nat_lit 91) [(.t (.r (.r p2))), (.t (.l (.l (.l p1)))), (.t (.r (.l (.l p1)))), (.t (.l (.r (.l p1)))), (.t (.r (.r (.l p1))))])⟩, ⟨(some (.l (.r p2))), none, (.move (.t (.l (.l (.r p1)))))⟩, ⟨(some (.r (.l (.r p1)))), none, (.more (.more (.more (.extract (nat_lit 0) (.t (.l (.r p2)))))))⟩, ⟨(some (.l (.r (.r p1)))), none, (.more (.more (.more (.extract (nat_lit 1) (.t (.l (.r p2)))))))⟩, ⟨(some p1), none, (.move (.t (.r (.l (.r p1)))))⟩, ⟨(some p2), none, (.move (.t (.l (.r (.r p1)))))⟩] [p1, p2] r88x1 := by
  intro call ρ st K
  kernel_rfl
noncomputable def r88x2 : RF := fun call ρ st K => call (nat_lit 91) [(ρ p0), (ρ p2), (ρ (.l p1)), (ρ (.r p1)), (ρ (.l p2))] st (fun v0 st => h_op4_extract (nat_lit 0) (.c v0) call ρ st (fun v1 st => h_op4_extract (nat_lit 1) (.c v0) call ρ st (fun v2 st => K [v1, v2] st)))
theorem h88x2 : RegOk [⟨(some (.l (.l (.l p2)))), none, (.move (.t p0))⟩, ⟨(some (.r (.l (.l p2)))), none, (.move (.t p2))⟩, ⟨(some (.l (.r (.l p2)))), none, (.move (.t (.l p1)))⟩, ⟨(some (.r (.r (.l p2)))), none, (.move (.t (.r p1)))⟩, ⟨(some (.l (.l (.r p2)))), none, (.move (.t (.l p2)))⟩, ⟨(some (.r (.l (.r p2)))), none, (.call (nat_lit 91) [(.t (.l (.l (.l p2)))), (.t (.r (.l (.l p2)))), (.t (.l (.r (.l p2)))), (.t (.r (.r (.l p2)))), (.t (.l (.l (.r p2))))])⟩, ⟨(some (.r (.r (.r p1)))), none, (.move (.t (.r (.l (.r p2)))))⟩, ⟨(some (.l (.r (.r p2)))), none, (.more (.more (.more (.extract (nat_lit 0) (.t (.r (.r (.r p1))))))))⟩, ⟨(some (.r (.r (.r p2)))), none, (.more (.more (.more (.extract (nat_lit 1) (.t (.r (.r (.r p1))))))))⟩, ⟨(some p2), none, (.move (.t (.l (.r (.r p2)))))⟩, ⟨(some (.l p1)), none, (.move (.t (.r (.r (.r p2)))))⟩] [p2, (.l p1)] r88x2 := by
  intro call ρ st K
  kernel_rfl
noncomputable def r88x3 : RF := fun call ρ st K => call (nat_lit 91) [(ρ p0), (ρ p1), (ρ p2), (ρ (.r p1)), (ρ (.l p2))] st (fun v0 st => h_op4_extract (nat_lit 0) (.c v0) call ρ st (fun v1 st => h_op4_extract (nat_lit 1) (.c v0) call ρ st (fun v2 st => K [v1, v2] st)))
theorem h88x3 : RegOk [⟨(some (.r (.l (.l (.l p1))))), none, (.move (.t p0))⟩, ⟨(some (.l (.r (.l (.l p1))))), none, (.move (.t p1))⟩, ⟨(some (.r (.r (.l (.l p1))))), none, (.move (.t p2))⟩, ⟨(some (.l (.l (.r (.l p1))))), none, (.move (.t (.r p1)))⟩, ⟨(some (.r (.l (.r (.l p1))))), none, (.move (.t (.l p2)))⟩, ⟨(some (.l (.r (.r (.l p1))))), none, (.call (nat_lit 91) [(.t (.r (.l (.l (.l p1))))), (.t (.l (.r (.l (.l p1))))), (.t (.r (.r (.l (.l p1))))), (.t (.l (.l (.r (.l p1))))), (.t (.r (.l (.r (.l p1)))))])⟩, ⟨(some (.l (.l (.l (.l p1))))), none, (.move (.t (.l (.r (.r (.l p1))))))⟩, ⟨(some (.r (.r (.r (.l p1))))), none, (.more (.more (.more (.extract (nat_lit 0) (.t (.l (.l (.l (.l p1)))))))))⟩, ⟨(some (.l (.l (.l (.r p1))))), none, (.more (.more (.more (.extract (nat_lit 1) (.t (.l (.l (.l (.l p1)))))))))⟩, ⟨(some p1), none, (.move (.t (.r (.r (.r (.l p1))))))⟩, ⟨(some p2), none, (.move (.t (.l (.l (.l (.r p1))))))⟩] [p1, p2] r88x3 := by
  intro call ρ st K
  kernel_rfl
noncomputable def r88x4 : RF := fun call ρ st K => K [(ρ p2)] st
theorem h88x4 : RegOk [⟨(some (.r (.l (.l (.r p1))))), none, (.move (.t p2))⟩, ⟨(some (.r (.l p2))), none, (.move (.t (.r (.l (.l (.r p1))))))⟩] [(.r (.l p2))] r88x4 := by
  intro call ρ st K
  kernel_rfl
/- slices.medianCmpFunc[int] -/
noncomputable def cf88 : HF := ⟨(.seq (.reg _ _ _ h88x0)
 (.seq (.reg _ _ _ h88x1)
 (.seq (.reg _ _ _ h88x2)
 (.seq (.reg _ _ _ h88x3)
 (.seq (.reg _ _ _ h88x4)
 .ret))))), [(.tmp (.r (.l p2)))], [p0, p1, p2, (.l p1), (.r p1), (.l p2)], [(.r (.r p2)), (.l (.l (.l p1))), (.r (.l (.l p1))), (.l (.r (.l p1))), (.r (.r (.l p1))), (.l (.l (.r p1))), (.l (.r p2)), (.r (.l (.r p1))), (.l (.r (.r p1))), (.l (.l (.l p2))), (.r (.l (.l p2))), (.l (.r (.l p2))), (.r (.r (.l p2))), (.l (.l (.r p2))), (.r (.l (.r p2))), (.r (.r (.r p1))), (.l (.r (.r p2))), (.r (.r (.r p2))), (.r (.l (.l (.l p1)))), (.l (.r (.l (.l p1)))), (.r (.r (.l (.l p1)))), (.l (.l (.r (.l p1)))), (.r (.l (.r (.l p1)))), (.l (.r (.r (.l p1)))), (.l (.l (.l (.l p1)))), (.r (.r (.r (.l p1)))), (.l (.l (.l (.r p1)))), (.r (.l (.l (.r p1))))]⟩
noncomputable def r91x0 : RF := fun call ρ st K => K [(i6 0), (i6 0)] st
theorem h91x0 : RegOk [⟨(some (.r (.r p1))), none, (.move (.c (.sc (.int .i64 (.ofNat (nat_lit 0))))))⟩, ⟨(some (.l (.l p2))), none, (.move (.c (.sc (.int .i64 (.ofNat (nat_lit 0))))))⟩] [(.r (.r p1)), (.l (.l p2))] r91x0 := by
  intro call ρ st K
  kernel_rfl
noncomputable def r91x1 : RF := fun call ρ st K => (fun n0 mk => (fun v st => (fun v0 mk st => (fun v st => (fun v1 mk st => (fun v st => (fun v2 mk st => ixs (nat_lit 1) v1 v2 (fun v => (fun v st => (fun v3 mk st => dw2 n0 mk (nat_lit 16) (nat_lit 14) v3 (fun q => ld1 st v3 (fun v => (q) v st)) (fun v4 mk st => (fun v st => (fun v5 mk st => (fun v st => (fun v6 mk st => ixs (nat_lit 1) v5 v6 (fun v => (fun v st => (fun v7 mk st => dw2 n0 mk (nat_lit 256) (nat_lit 224) v7 (fun q => ld1 st v7 (fun v => (q) v st)) (fun v8 mk st => dw3 mk (nat_lit 512) (nat_lit 511) st (fun st q => h_op4_callV (.c v0) [(.c v4), (.c v8)] call ρ st (q)) (fun v9 mk st => binK .lss v9 (i6 0) (fun v => (fun v st => (fun v10 mk st => K [v10] st) v mk st) v st)))) v mk st) v st)) v mk st) (ρ p1) st) v mk st) (ρ p0) st)) v mk st) v st)) v mk st) (ρ p2) st) v mk st) (ρ p0) st) v mk st) (ρ (.r p1)) st) st.next mk0
theorem h91x1 : DrwOk [⟨(some (.r (.l p2))), none, (.move (.t (.r p1))), (nat_lit 0), (nat_lit 1), (nat_lit 0)⟩, ⟨(some (.l (.r p2))), none, (.move (.t p0)), (nat_lit 0), (nat_lit 2), (nat_lit 0)⟩, ⟨(some (.r (.r p2))), none, (.move (.t p2)), (nat_lit 0), (nat_lit 4), (nat_lit 0)⟩, ⟨(some (.l (.l (.l p1)))), none, (.idxS (nat_lit 1) (.t (.l (.r p2))) (.t (.r (.r p2)))), (nat_lit 0), (nat_lit 8), (nat_lit 6)⟩, ⟨(some (.r (.l (.l p1)))), none, (.load1 (.t (.l (.l (.l p1))))), (nat_lit 2), (nat_lit 16), (nat_lit 14)⟩, ⟨(some (.l (.r (.l p1)))), none, (.move (.t p0)), (nat_lit 0), (nat_lit 32), (nat_lit 0)⟩, ⟨(some (.r (.r (.l p1)))), none, (.move (.t p1)), (nat_lit 0), (nat_lit 64), (nat_lit 0)⟩, ⟨(some (.l (.l (.r p1)))), none, (.idxS (nat_lit 1) (.t (.l (.r (.l p1)))) (.t (.r (.r (.l p1))))), (nat_lit 0), (nat_lit 128), (nat_lit 96)⟩, ⟨(some (.r (.l (.r p1)))), none, (.load1 (.t (.l (.l (.r p1))))), (nat_lit 2), (nat_lit 256), (nat_lit 224)⟩, ⟨(some (.l (.r (.r p1)))), none, (.more (.more (.more (.callV (.t (.r (.l p2))) [(.t (.r (.l (.l p1)))), (.t (.r (.l (.r p1))))])))), (nat_lit 3), (nat_lit 512), (nat_lit 511)⟩, ⟨(some (.r (.r (.r p1)))), none, (.bin .lss (.t (.l (.r (.r p1)))) (.c (.sc (.int .i64 (.ofNat (nat_lit 0)))))), (nat_lit 0), (nat_lit 1024), (nat_lit 1023)⟩] [(.r (.r (.r p1)))] r91x1 := by
  intro call ρ st K
  kernel_rfl
noncomputable def r91x2 : RF := fun call ρ st K => h_op4_nilCheck (.c (ρ (.l p1))) call ρ st (fun v0 st => ld1 st v0 (fun v => (fun v1 st => binK .add v1 (i6 1) (fun v => (fun v2 st => h_op4_nilCheck (.c (ρ (.l p1))) call ρ st (fun v3 st => sto st (nat_lit 1) v3 v2 ((fun _ st => K [] st) undefV))) v st)) v st))
theorem h91x2 : RegOk [⟨(some (.l (.l (.l p2)))), none, (.move (.t (.l p1)))⟩, ⟨(some (.r (.l (.l p2)))), none, (.more (.more (.more (.nilCheck (.t (.l (.l (.l p2))))))))⟩, ⟨(some (.l (.r (.l p2)))), none, (.load1 (.t (.r (.l (.l p2)))))⟩, ⟨(some (.r (.r (.l p2)))), none, (.bin .add (.t (.l (.r (.l p2)))) (.c (.sc (.int .i64 (.ofNat (nat_lit 1))))))⟩, ⟨(some (.l (.l (.r p2)))), none, (.more (.more (.more (.nilCheck (.t (.l (.l (.l p2))))))))⟩, ⟨none, none, (.more (.store (nat_lit 1) (.t (.l (.l (.r p2)))) (.t (.r (.r (.l p2))))))⟩] [] r91x2 := by
  intro call ρ st K
  kernel_rfl
noncomputable def r91x3 : RF := fun call ρ st K => K [(ρ p2), (ρ p1)] st
theorem h91x3 : RegOk [⟨(some (.r (.l (.r p2)))), none, (.move (.t p2))⟩, ⟨(some (.l (.r (.r p2)))), none, (.move (.t p1))⟩, ⟨(some (.r (.r p1))), none, (.move (.t (.r (.l (.r p2)))))⟩, ⟨(some (.l (.l p2))), none, (.move (.t (.l (.r (.r p2)))))⟩] [(.r (.r p1)), (.l (.l p2))] r91x3 := by
  intro call ρ st K
  kernel_rfl
noncomputable def r91x4 : RF := fun call ρ st K => K [(ρ p1), (ρ p2)] st
theorem h91x4 : RegOk [⟨(some (.r (.r (.r p2)))), none, (.move (.t p1))⟩, ⟨(some (.l (.l (.l (.l p1))))), none, (.move (.t p2))⟩, ⟨(some (.r (.r p1))), none, (.move (.t (.r (.r (.r p2)))))⟩, ⟨(some (.l (.l p2))), none, (.move (.t (.l (.l (.l (.l p1))))))⟩] [(.r (.r p1)), (.l (.l p2))] r91x4 := by
  intro call ρ st K
  kernel_rfl
/- slices.order2CmpFunc[int] -/
noncomputable def cf91 : HF := ⟨(.seq (.reg _ _ _ h91x0)
 (.seq (.seq (.drw _ _ _ h91x1)
 (.cond (.t (.r (.r (.r p1)))) (.seq (.reg _ _ _ h91x2)
 (.seq (.reg _ _ _ h91x3)
 .ret))
 .skip))
 (.seq (.reg _ _ _ h91x4)
 .ret))), [(.tmp (.r (.r p1))), (.tmp (.l (.l p2)))], [p0, p1, p2, (.l p1), (.r p1)], [(.r (.l p2)), (.l (.r p2)), (.r (.r p2)), (.l (.l (.l p1))), (.r (.l (.l p1))), (.l (.r (.l p1))), (.r (.r (.l p1))), (.l (.l (.r p1))), (.r (.l (.r p1))), (.l (.r (.r p1))), (.l (.l (.l p2))), (.r (.l (.l p2))), (.l (.r (.l p2))), (.r (.r (.l p2))), (.l (.l (.r p2))), (.r (.l (.r p2))), (.l (.r (.r p2))), (.r (.r (.r p2))), (.l (.l (.l (.l p1))))]⟩
noncomputable def r87x0 : RF := fun call ρ st K => K [(i6 0)] st
theorem h87x0 : RegOk [⟨(some (.r (.l p1))), none, (.move (.c (.sc (.int .i64 (.ofNat (nat_lit 0))))))⟩] [(.r (.l p1))] r87x0 := by
  intro call ρ st K
  kernel_rfl
noncomputable def r87x1 : RF := fun call ρ st K => binK .sub (ρ p1) (i6 1) (fun v => (fun v0 st => binK .add (ρ p1) (i6 1) (fun v => (fun v1 st => call (nat_lit 88) [(ρ p0), v0, (ρ p1), v1, (ρ p2), (ρ (.l p1))] st (fun v2 st => K [v2] st)) v st)) v st)
theorem h87x1 : RegOk [⟨(some (.l (.r p1))), none, (.move (.t p0))⟩, ⟨(some (.r (.r p1))), none, (.move (.t p1))⟩, ⟨(some (.l (.l p2))), none, (.bin .sub (.t (.r (.r p1))) (.c (.sc (.int .i64 (.ofNat (nat_lit 1))))))⟩, ⟨(some (.r (.l p2))), none, (.move (.t p1))⟩, ⟨(some (.l (.r p2))), none, (.move (.t p1))⟩, ⟨(some (.r (.r p2))), none, (.bin .add (.t (.l (.r p2))) (.c (.sc (.int .i64 (.ofNat (nat_lit 1))))))⟩, ⟨(some (.l (.l (.l p1)))), none, (.move (.t p2))⟩, ⟨(some (.r (.l (.l p1)))), none, (.move (.t (.l p1)))⟩, ⟨(some (.l (.r (.l p1)))), none, (.call (nat_lit 88) [(.t (.l (.r p1))), (.t (.l (.l p2))), (.t (.r (.l p2))), (.t (.r (.r p2))), (.t (.l (.l (.l p1)))), (.t (.r (.l (.l p1))))])⟩, ⟨(some (.r (.l p1))), none, (.move (.t (.l (.r (.l p1)))))⟩] [(.r (.l p1))] r87x1 := by
  intro call ρ st K
  kernel_rfl
/- slices.medianAdjacentCmpFunc[int] -/
noncomputable def cf87 : HF := ⟨(.seq (.reg _ _ _ h87x0)
 (.seq (.reg _ _ _ h87x1)
 .ret)), [(.tmp (.r (.l p1)))], [p0, p1, p2, (.l p1)], [(.l (.r p1)), (.r (.r p1)), (.l (.l p2)), (.r (.l p2)), (.l (.r p2)), (.r (.r p2)), (.l (.l (.l p1))), (.r (.l (.l p1))), (.l (.r (.l p1)))]⟩
noncomputable def r71x0 : RF := fun call ρ st K => binK .sub (ρ p2) (ρ p1) (fun v => (fun v0 st => K [v0] st) v st)
theorem h71x0 : RegOk [⟨(some (.l (.r p2))), none, (.move (.t p2))⟩, ⟨(some (.r (.r p2))), none, (.move (.t p1))⟩, ⟨(some (.l (.l (.l p1)))), none, (.bin .sub (.t (.l (.r p2))) (.t (.r (.r p2))))⟩, ⟨(some (.r (.l p1))), none, (.move (.t (.l (.l (.l p1)))))⟩] [(.r (.l p1))] r71x0 := by
  intro call ρ st K
  kernel_rfl
noncomputable def r71x1 : RF := fun call ρ st K => binK .geq (ρ (.r (.l p1))) (i6 8) (fun v => (fun v0 st => K [v0] st) v st)
theorem h71x1 : RegOk [⟨(some (.r (.l (.l p1)))), none, (.move (.t (.r (.l p1))))⟩, ⟨(some (.l (.r (.l p1)))), none, (.bin .geq (.t (.r (.l (.l p1)))) (.c (.sc (.int .i64 (.ofNat (nat_lit 8))))))⟩] [(.l (.r (.l p1)))] r71x1 := by
  intro call ρ st K
  kernel_rfl
noncomputable def r71x2 : RF := fun call ρ st K => cnv .u64 (ρ (.r (.l p1))) (fun v => (fun v0 st => alc st [(.int .u64 (.ofNat (nat_lit 0)))] (fun v1 st => sto st (nat_lit 1) v1 v0 ((fun _ st => K [v1] st) undefV))) v st)
theorem h71x2 : RegOk [⟨(some (.r (.r (.l p1)))), none, (.move (.t (.r (.l p1))))⟩, ⟨(some (.l (.l (.r p1)))), none, (.more (.conv .u64 (.t (.r (.r (.l p1))))))⟩, ⟨(some (.l (.r p1))), none, (.more (.alloc [(.int .u64 (.ofNat (nat_lit 0)))]))⟩, ⟨none, none, (.more (.store (nat_lit 1) (.t (.l (.r p1))) (.t (.l (.l (.r p1))))))⟩] [(.l (.r p1))] r71x2 := by
  intro call ρ st K
  kernel_rfl
noncomputable def r71x3 : RF := fun call ρ st K => call (nat_lit 85) [(ρ (.r (.l p1)))] st (fun v0 st => K [v0] st)
theorem h71x3 : RegOk [⟨(some (.r (.l (.r p1)))), none, (.move (.t (.r (.l p1))))⟩, ⟨(some (.l (.r (.r p1)))), none, (.call (nat_lit 85) [(.t (.r (.l (.r p1))))])⟩, ⟨(some (.r (.r p1))), none, (.move (.t (.l (.r (.r p1)))))⟩] [(.r (.r p1))] r71x3 := by
  intro call ρ st K
  kernel_rfl
noncomputable def r71x4 : RF := fun call ρ st K => binK .quo (ρ (.r (.l p1))) (i6 4) (fun v => (fun v0 st => binK .mul v0 (i6 2) (fun v => (fun v1 st => binK .add (ρ p1) v1 (fun v => (fun v2 st => binK .sub v2 (i6 1) (fun v => (fun v3 st => K [v3] st) v st)) v st)) v st)) v st)
theorem h71x4 : RegOk [⟨(some (.r (.r (.r p1)))), none, (.move (.t p1))⟩, ⟨(some (.l (.l (.l p2)))), none, (.move (.t (.r (.l p1))))⟩, ⟨(some (.r (.l (.l p2)))), none, (.bin .quo (.t (.l (.l (.l p2)))) (.c (.sc (.int .i64 (.ofNat (nat_lit 4))))))⟩, ⟨(some (.l (.r (.l p2)))), none, (.bin .mul (.t (.r (.l (.l p2)))) (.c (.sc (.int .i64 (.ofNat (nat_lit 2))))))⟩, ⟨(some (.r (.r (.l p2)))), none, (.bin .add (.t (.r (.r (.r p1)))) (.t (.l (.r (.l p2)))))⟩, ⟨(some (.l (.l (.r p2)))), none, (.bin .sub (.t (.r (.r (.l p2)))) (.c (.sc (.int .i64 (.ofNat (nat_lit 1))))))⟩, ⟨(some (.l (.l p2))), none, (.move (.t (.l (.l (.r p2)))))⟩] [(.l (.l p2))] r71x4 := by
  intro call ρ st K
  kernel_rfl
noncomputable def r71x5 : RF := fun call ρ st K => binK .quo (ρ (.r (.l p1))) (i6 4) (fun v => (fun v0 st => binK .mul v0 (i6 2) (fun v => (fun v1 st => binK .add (ρ p1) v1 (fun v => (fun v2 st => binK .add v2 (i6 1) (fun v => (fun v3 st => binK .leq (ρ (.l (.l p2))) v3 (fun v => (fun v4 st => K [v4] st) v st)) v st)) v st)) v st)) v st)
theorem h71x5 : RegOk [⟨(some (.r (.l (.r p2)))), none, (.move (.t (.l (.l p2))))⟩, ⟨(some (.l (.r (.r p2)))), none, (.move (.t p1))⟩, ⟨(some (.r (.r (.r p2)))), none, (.move (.t (.r (.l p1))))⟩, ⟨(some (.l (.l (.l (.l p1))))), none, (.bin .quo (.t (.r (.r (.r p2)))) (.c (.sc (.int .i64 (.ofNat (nat_lit 4))))))⟩, ⟨(some (.r (.l (.l (.l p1))))), none, (.bin .mul (.t (.l (.l (.l (.l p1))))) (.c (.sc (.int .i64 (.ofNat (nat_lit 2))))))⟩, ⟨(some (.l (.r (.l (.l p1))))), none, (.bin .add (.t (.l (.r (.r p2)))) (.t (.r (.l (.l (.l p1))))))⟩, ⟨(some (.r (.r (.l (.l p1))))), none, (.bin .add (.t (.l (.r (.l (.l p1))))) (.c (.sc (.int .i64 (.ofNat (nat_lit 1))))))⟩, ⟨(some (.l (.l (.r (.l p1))))), none, (.bin .leq (.t (.r (.l (.r p2)))) (.t (.r (.r (.l (.l p1))))))⟩] [(.l (.l (.r (.l p1))))] r71x5 := by
  intro call ρ st K
  kernel_rfl
noncomputable def r71x6 : RF := fun call ρ st K => call (nat_lit 86) [(ρ (.l (.r p1)))] st (fun v0 st => binK .sub (ρ (.r (.r p1))) (u6 1) (fun v => (fun v1 st => binK .and v0 v1 (fun v => (fun v2 st => cnv .i64 v2 (fun v => (fun v3 st => K [v3] st) v st)) v st)) v st))
theorem h71x6 : RegOk [⟨(some (.r (.r (.r (.l p1))))), none, (.call (nat_lit 86) [(.t (.l (.r p1)))])⟩, ⟨(some (.l (.l (.l (.r p1))))), none, (.move (.t (.r (.r p1))))⟩, ⟨(some (.r (.l (.l (.r p1))))), none, (.bin .sub (.t (.l (.l (.l (.r p1))))) (.c (.sc (.int .u64 (.ofNat (nat_lit 1))))))⟩, ⟨(some (.l (.r (.l (.r p1))))), none, (.bin .and (.t (.r (.r (.r (.l p1))))) (.t (.r (.l (.l (.r p1))))))⟩, ⟨(some (.r (.r (.l (.r p1))))), none, (.more (.conv .i64 (.t (.l (.r (.l (.r p1)))))))⟩, ⟨(some (.r (.l p2))), none, (.move (.t (.r (.r (.l (.r p1))))))⟩] [(.r (.l p2))] r71x6 := by
  intro call ρ st K
  kernel_rfl
noncomputable def r71x7 : RF := fun call ρ st K => binK .geq (ρ (.r (.l p2))) (ρ (.r (.l p1))) (fun v => (fun v0 st => K [v0] st) v st)
theorem h71x7 : RegOk [⟨(some (.l (.l (.r (.r p1))))), none, (.move (.t (.r (.l p2))))⟩, ⟨(some (.r (.l (.r (.r p1))))), none, (.move (.t (.r (.l p1))))⟩, ⟨(some (.l (.r (.r (.r p1))))), none, (.bin .geq (.t (.l (.l (.r (.r p1))))) (.t (.r (.l (.r (.r p1))))))⟩] [(.l (.r (.r (.r p1))))] r71x7 := by
  intro call ρ st K
  kernel_rfl
noncomputable def r71x8 : RF := fun call ρ st K => binK .sub (ρ (.r (.l p2))) (ρ (.r (.l p1))) (fun v => (fun v0 st => K [v0] st) v st)
theorem h71x8 : RegOk [⟨(some (.r (.r (.r (.r p1))))), none, (.move (.t (.r (.l p2))))⟩, ⟨(some (.l (.l (.l (.l p2))))), none, (.move (.t (.r (.l p1))))⟩, ⟨(some (.r (.l (.l (.l p2))))), none, (.bin .sub (.t (.r (.r (.r (.r p1))))) (.t (.l (.l (.l (.l p2))))))⟩, ⟨(some (.r (.l p2))), none, (.move (.t (.r (.l (.l (.l p2))))))⟩] [(.r (.l p2))] r71x8 := by
  intro call ρ st K
  kernel_rfl
noncomputable def r71x9 : RF := fun call ρ st K => (fun n0 mk => (fun v st => (fun v0 mk st => (fun v st => (fun v1 mk st => (fun v st => (fun v2 mk st => (fun v st => (fun v3 mk st => (fun v st => (fun v4 mk st => binK .add v3 v4 (fun v => (fun v st => (fun v5 mk st => (fun v st => (fun v6 mk st => (fun v st => (fun v7 mk st => (fun v st => (fun v8 mk st => binK .add v7 v8 (fun v => (fun v st => (fun v9 mk st => ixs (nat_lit 1) v6 v9 (fun v => (fun v st => (fun v10 mk st => dw2 n0 mk (nat_lit 2048) (nat_lit 1984) v10 (fun q => ld1 st v10 (fun v => (q) v st)) (fun v11 mk st => (fun v st => (fun v12 mk st => (fun v st => (fun v13 mk st => ixs (nat_lit 1) v12 v13 (fun v => (fun v st => (fun v14 mk st => dw2 n0 mk (nat_lit 32768) (nat_lit 28672) v14 (fun q => ld1 st v14 (fun v => (q) v st)) (fun v15 mk st => ixs (nat_lit 1) v0 v1 (fun v => (fun v st => (fun v16 mk st => dw4 n0 mk (nat_lit 131072) (nat_lit 131011) v16 (fun q => sto st (nat_lit 1) v16 v11 ((q) undefV)) (fun _ mk st => ixs (nat_lit 1) v2 v5 (fun v => (fun v st => (fun v18 mk st => dw4 n0 mk (nat_lit 524288) (nat_lit 524287) v18 (fun q => sto st (nat_lit 1) v18 v15 ((q) undefV)) (fun _ mk st => K [] st)) v mk st) v st))) v mk st) v st))) v mk st) v st)) v mk st) (ρ (.l (.l p2))) st) v mk st) (ρ p0) st)) v mk st) v st)) v mk st) v st)) v mk st) (ρ (.r (.l p2))) st) v mk st) (ρ p1) st) v mk st) (ρ p0) st) v mk st) v st)) v mk st) (ρ (.r (.l p2))) st) v mk st) (ρ p1) st) v mk st) (ρ p0) st) v mk st) (ρ (.l (.l p2))) st) v mk st) (ρ p0) st) st.next mk0
theorem h71x9 : DrwOk [⟨(some (.l (.r (.l (.l p2))))), none, (.move (.t p0)), (nat_lit 0), (nat_lit 1), (nat_lit 0)⟩, ⟨(some (.r (.r (.l (.l p2))))), none, (.move (.t (.l (.l p2)))), (nat_lit 0), (nat_lit 2), (nat_lit 0)⟩, ⟨(some (.l (.l (.r (.l p2))))), none, (.move (.t p0)), (nat_lit 0), (nat_lit 4), (nat_lit 0)⟩, ⟨(some (.r (.l (.r (.l p2))))), none, (.move (.t p1)), (nat_lit 0), (nat_lit 8), (nat_lit 0)⟩, ⟨(some (.l (.r (.r (.l p2))))), none, (.move (.t (.r (.l p2)))), (nat_lit 0), (nat_lit 16), (nat_lit 0)⟩, ⟨(some (.r (.r (.r (.l p2))))), none, (.bin .add (.t (.r (.l (.r (.l p2))))) (.t (.l (.r (.r (.l p2)))))), (nat_lit 0), (nat_lit 32), (nat_lit 24)⟩, ⟨(some (.l (.l (.l (.r p2))))), none, (.move (.t p0)), (nat_lit 0), (nat_lit 64), (nat_lit 0)⟩, ⟨(some (.r (.l (.l (.r p2))))), none, (.move (.t p1)), (nat_lit 0), (nat_lit 128), (nat_lit 0)⟩, ⟨(some (.l (.r (.l (.r p2))))), none, (.move (.t (.r (.l p2)))), (nat_lit 0), (nat_lit 256), (nat_lit 0)⟩, ⟨(some (.r (.r (.l (.r p2))))), none, (.bin .add (.t (.r (.l (.l (.r p2))))) (.t (.l (.r (.l (.r p2)))))), (nat_lit 0), (nat_lit 512), (nat_lit 384)⟩, ⟨(some (.l (.l (.r (.r p2))))), none, (.idxS (nat_lit 1) (.t (.l (.l (.l (.r p2))))) (.t (.r (.r (.l (.r p2)))))), (nat_lit 0), (nat_lit 1024), (nat_lit 960)⟩, ⟨(some (.r (.l (.r (.r p2))))), none, (.load1 (.t (.l (.l (.r (.r p2)))))), (nat_lit 2), (nat_lit 2048), (nat_lit 1984)⟩, ⟨(some (.l (.r (.r (.r p2))))), none, (.move (.t p0)), (nat_lit 0), (nat_lit 4096), (nat_lit 0)⟩, ⟨(some (.r (.r (.r (.r p2))))), none, (.move (.t (.l (.l p2)))), (nat_lit 0), (nat_lit 8192), (nat_lit 0)⟩, ⟨(some (.l (.l (.l (.l (.l p1)))))), none, (.idxS (nat_lit 1) (.t (.l (.r (.r (.r p2))))) (.t (.r (.r (.r (.r p2)))))), (nat_lit 0), (nat_lit 16384), (nat_lit 12288)⟩, ⟨(some (.r (.l (.l (.l (.l p1)))))), none, (.load1 (.t (.l (.l (.l (.l (.l p1))))))), (nat_lit 2), (nat_lit 32768), (nat_lit 28672)⟩, ⟨(some (.l (.r (.l (.l (.l p1)))))), none, (.idxS (nat_lit 1) (.t (.l (.r (.l (.l p2))))) (.t (.r (.r (.l (.l p2)))))), (nat_lit 0), (nat_lit 65536), (nat_lit 65475)⟩, ⟨none, none, (.more (.store (nat_lit 1) (.t (.l (.r (.l (.l (.l p1)))))) (.t (.r (.l (.r (.r p2))))))), (nat_lit 4), (nat_lit 131072), (nat_lit 131011)⟩, ⟨(some (.r (.r (.l (.l (.l p1)))))), none, (.idxS (nat_lit 1) (.t (.l (.l (.r (.l p2))))) (.t (.r (.r (.r (.l p2)))))), (nat_lit 0), (nat_lit 262144), (nat_lit 262143)⟩, ⟨none, none, (.more (.store (nat_lit 1) (.t (.r (.r (.l (.l (.l p1)))))) (.t (.r (.l (.l (.l (.l p1)))))))), (nat_lit 4), (nat_lit 524288), (nat_lit 524287)⟩] [] r71x9 := by
  intro call ρ st K
  kernel_rfl
noncomputable def r71x10 : RF := fun call ρ st K => binK .add (ρ (.l (.l p2))) (i6 1) (fun v => (fun v0 st => K [v0] st) v st)
theorem h71x10 : RegOk [⟨(some (.r (.l (.r (.l p1))))), none, (.move (.t (.l (.l p2))))⟩, ⟨(some (.l (.r (.r (.l p1))))), none, (.bin .add (.t (.r (.l (.r (.l p1))))) (.c (.sc (.int .i64 (.ofNat (nat_lit 1))))))⟩, ⟨(some (.l (.l p2))), none, (.move (.t (.l (.r (.r (.l p1))))))⟩] [(.l (.l p2))] r71x10 := by
  intro call ρ st K
  kernel_rfl
/- slices.breakPatternsCmpFunc[int] -/
noncomputable def cf71 : HF := ⟨(.seq (.reg _ _ _ h71x0)
 (.seq (.reg _ _ _ h71x1)
 (.cond (.t (.l (.r (.l p1)))) (.seq (.reg _ _ _ h71x2)
 (.seq (.reg _ _ _ h71x3)
 (.seq (.reg _ _ _ h71x4)
 (.block (nat_lit 0) (.loop (.seq (.seq (.reg _ _ _ h71x5)
 (.cond (.t (.l (.l (.r (.l p1))))) .skip
 (.exit (nat_lit 0))))
 (.seq (.block (nat_lit 1) (.seq (.reg _ _ _ h71x6)
 (.seq (.seq (.reg _ _ _ h71x7)
 (.cond (.t (.l (.r (.r (.r p1))))) (.reg _ _ _ h71x8)
 .skip))
 (.drw _ _ _ h71x9))))
 (.reg _ _ _ h71x10))))))))
 .skip))), [], [p0, p1, p2, (.l p1)], [(.l (.r p2)), (.r (.r p2)), (.l (.l (.l p1))), (.r (.l (.l p1))), (.r (.r (.l p1))), (.l (.l (.r p1))), (.r (.l (.r p1))), (.l (.r (.r p1))), (.r (.r (.r p1))), (.l (.l (.l p2))), (.r (.l (.l p2))), (.l (.r (.l p2))), (.r (.r (.l p2))), (.l (.l (.r p2))), (.r (.l (.r p2))), (.l (.r (.r p2))), (.r (.r (.r p2))), (.l (.l (.l (.l p1)))), (.r (.l (.l (.l p1)))), (.l (.r (.l (.l p1)))), (.r (.r (.l (.l p1)))), (.r (.r (.r (.l p1)))), (.l (.l (.l (.r p1)))), (.r (.l (.l (.r p1)))), (.l (.r (.l (.r p1)))), (.r (.r (.l (.r p1)))), (.l (.l (.r (.r p1)))), (.r (.l (.r (.r p1)))), (.r (.r (.r (.r p1)))), (.l (.l (.l (.l p2)))), (.r (.l (.l (.l p2)))), (.l (.r (.l (.l p2)))), (.r (.r (.l (.l p2)))), (.l (.l (.r (.l p2)))), (.r (.l (.r (.l p2)))), (.l (.r (.r (.l p2)))), (.r (.r (.r (.l p2)))), (.l (.l (.l (.r p2)))), (.r (.l (.l (.r p2)))), (.l (.r (.l (.r p2)))), (.r (.r (.l (.r p2)))), (.l (.l (.r (.r p2)))), (.r (.l (.r (.r p2)))), (.l (.r (.r (.r p2)))), (.r (.r (.r (.r p2)))), (.l (.l (.l (.l (.l p1))))), (.r (.l (.l (.l (.l p1))))), (.l (.r (.l (.l (.l p1))))), (.r (.r (.l (.l (.l p1))))), (.r (.l (.r (.l p1)))), (.l (.r (.r (.l p1))))]⟩
noncomputable def r86x0 : RF := fun call ρ st K => K [(u6 0)] st
theorem h86x0 : RegOk [⟨(some p2), none, (.move (.c (.sc (.int .u64 (.ofNat (nat_lit 0))))))⟩] [p2] r86x0 := by
  intro call ρ st K
  kernel_rfl
noncomputable def r86x1 : RF := fun call ρ st K => (fun n0 mk => (fun v st => (fun v0 mk st => h_op4_nilCheck (.c v0) call ρ st (fun v st => (fun v1 mk st => dw2 n0 mk (nat_lit 4) (nat_lit 3) v1 (fun q => ld1 st v1 (fun v => (q) v st)) (fun v2 mk st => (fun v st => (fun v3 mk st => h_op4_nilCheck (.c v3) call ρ st (fun v st => (fun v4 mk st => dw2 n0 mk (nat_lit 32) (nat_lit 24) v4 (fun q => ld1 st v4 (fun v => (q) v st)) (fun v5 mk st => h_op4_shift true (.c v5) (.c (u6 13)) call ρ st (fun v st => (fun v6 mk st => binK .xor v2 v6 (fun v => (fun v st => (fun v7 mk st => h_op4_nilCheck (.c v0) call ρ st (fun v st => (fun v8 mk st => dw4 n0 mk (nat_lit 512) (nat_lit 511) v8 (fun q => sto st (nat_lit 1) v8 v7 ((q) undefV)) (fun _ mk st => K [] st)) v mk st)) v mk st) v st)) v mk st))) v mk st)) v mk st) (ρ p0) st)) v mk st)) v mk st) (ρ p0) st) st.next mk0
theorem h86x1 : DrwOk [⟨(some (.l p1)), none, (.move (.t p0)), (nat_lit 0), (nat_lit 1), (nat_lit 0)⟩, ⟨(some (.r p1)), none, (.more (.more (.more (.nilCheck (.t (.l p1)))))), (nat_lit 0), (nat_lit 2), (nat_lit 1)⟩, ⟨(some (.l p2)), none, (.load1 (.t (.r p1))), (nat_lit 2), (nat_lit 4), (nat_lit 3)⟩, ⟨(some (.r p2)), none, (.move (.t p0)), (nat_lit 0), (nat_lit 8), (nat_lit 0)⟩, ⟨(some (.l (.l p1))), none, (.more (.more (.more (.nilCheck (.t (.r p2)))))), (nat_lit 0), (nat_lit 16), (nat_lit 8)⟩, ⟨(some (.r (.l p1))), none, (.load1 (.t (.l (.l p1)))), (nat_lit 2), (nat_lit 32), (nat_lit 24)⟩, ⟨(some (.l (.r p1))), none, (.more (.more (.more (.shift true (.t (.r (.l p1))) (.c (.sc (.int .u64 (.ofNat (nat_lit 13))))))))), (nat_lit 0), (nat_lit 64), (nat_lit 56)⟩, ⟨(some (.r (.r p1))), none, (.bin .xor (.t (.l p2)) (.t (.l (.r p1)))), (nat_lit 0), (nat_lit 128), (nat_lit 127)⟩, ⟨(some (.l (.l p2))), none, (.more (.more (.more (.nilCheck (.t (.l p1)))))), (nat_lit 0), (nat_lit 256), (nat_lit 255)⟩, ⟨none, none, (.more (.store (nat_lit 1) (.t (.l (.l p2))) (.t (.r (.r p1))))), (nat_lit 4), (nat_lit 512), (nat_lit 511)⟩] [] r86x1 := by
  intro call ρ st K
  kernel_rfl
noncomputable def r86x2 : RF := fun call ρ st K => (fun n0 mk => (fun v st => (fun v0 mk st => h_op4_nilCheck (.c v0) call ρ st (fun v st => (fun v1 mk st => dw2 n0 mk (nat_lit 4) (nat_lit 3) v1 (fun q => ld1 st v1 (fun v => (q) v st)) (fun v2 mk st => (fun v st => (fun v3 mk st => h_op4_nilCheck (.c v3) call ρ st (fun v st => (fun v4 mk st => dw2 n0 mk (nat_lit 32) (nat_lit 24) v4 (fun q => ld1 st v4 (fun v => (q) v st)) (fun v5 mk st => h_op4_shift false (.c v5) (.c (u6 7)) call ρ st (fun v st => (fun v6 mk st => binK .xor v2 v6 (fun v => (fun v st => (fun v7 mk st => h_op4_nilCheck (.c v0) call ρ st (fun v st => (fun v8 mk st => dw4 n0 mk (nat_lit 512) (nat_lit 511) v8 (fun q => sto st (nat_lit 1) v8 v7 ((q) undefV)) (fun _ mk st => K [] st)) v mk st)) v mk st) v st)) v mk st))) v mk st)) v mk st) (ρ p0) st)) v mk st)) v mk st) (ρ p0) st) st.next mk0
theorem h86x2 : DrwOk [⟨(some (.r (.l p2))), none, (.move (.t p0)), (nat_lit 0), (nat_lit 1), (nat_lit 0)⟩, ⟨(some (.l (.r p2))), none, (.more (.more (.more (.nilCheck (.t (.r (.l p2))))))), (nat_lit 0), (nat_lit 2), (nat_lit 1)⟩, ⟨(some (.r (.r p2))), none, (.load1 (.t (.l (.r p2)))), (nat_lit 2), (nat_lit 4), (nat_lit 3)⟩, ⟨(some (.l (.l (.l p1)))), none, (.move (.t p0)), (nat_lit 0), (nat_lit 8), (nat_lit 0)⟩, ⟨(some (.r (.l (.l p1)))), none, (.more (.more (.more (.nilCheck (.t (.l (.l (.l p1)))))))), (nat_lit 0), (nat_lit 16), (nat_lit 8)⟩, ⟨(some (.l (.r (.l p1)))), none, (.load1 (.t (.r (.l (.l p1))))), (nat_lit 2), (nat_lit 32), (nat_lit 24)⟩, ⟨(some (.r (.r (.l p1)))), none, (.more (.more (.more (.shift false (.t (.l (.r (.l p1)))) (.c (.sc (.int .u64 (.ofNat (nat_lit 7))))))))), (nat_lit 0), (nat_lit 64), (nat_lit 56)⟩, ⟨(some (.l (.l (.r p1)))), none, (.bin .xor (.t (.r (.r p2))) (.t (.r (.r (.l p1))))), (nat_lit 0), (nat_lit 128), (nat_lit 127)⟩, ⟨(some (.r (.l (.r p1)))), none, (.more (.more (.more (.nilCheck (.t (.r (.l p2))))))), (nat_lit 0), (nat_lit 256), (nat_lit 255)⟩, ⟨none, none, (.more (.store (nat_lit 1) (.t (.r (.l (.r p1)))) (.t (.l (.l (.r p1)))))), (nat_lit 4), (nat_lit 512), (nat_lit 511)⟩] [] r86x2 := by
  intro call ρ st K
  kernel_rfl
noncomputable def r86x3 : RF := fun call ρ st K => (fun n0 mk => (fun v st => (fun v0 mk st => h_op4_nilCheck (.c v0) call ρ st (fun v st => (fun v1 mk st => dw2 n0 mk (nat_lit 4) (nat_lit 3) v1 (fun q => ld1 st v1 (fun v => (q) v st)) (fun v2 mk st => (fun v st => (fun v3 mk st => h_op4_nilCheck (.c v3) call ρ st (fun v st => (fun v4 mk st => dw2 n0 mk (nat_lit 32) (nat_lit 24) v4 (fun q => ld1 st v4 (fun v => (q) v st)) (fun v5 mk st => h_op4_shift true (.c v5) (.c (u6 17)) call ρ st (fun v st => (fun v6 mk st => binK .xor v2 v6 (fun v => (fun v st => (fun v7 mk st => h_op4_nilCheck (.c v0) call ρ st (fun v st => (fun v8 mk st => dw4 n0 mk (nat_lit 512) (nat_lit 511) v8 (fun q => sto st (nat_lit 1) v8 v7 ((q) undefV)) (fun _ mk st => K [] st)) v mk st)) v mk st) v st)) v mk st))) v mk st)) v mk st) (ρ p0) st)) v mk st)) v mk st) (ρ p0) st) st.next mk0
theorem h86x3 : DrwOk [⟨(some (.l (.r (.r p1)))), none, (.move (.t p0)), (nat_lit 0), (nat_lit 1), (nat_lit 0)⟩, ⟨(some (.r (.r (.r p1)))), none, (.more (.more (.more (.nilCheck (.t (.l (.r (.r p1)))))))), (nat_lit 0), (nat_lit 2), (nat_lit 1)⟩, ⟨(some (.l (.l (.l p2)))), none, (.load1 (.t (.r (.r (.r p1))))), (nat_lit 2), (nat_lit 4), (nat_lit 3)⟩, ⟨(some (.r (.l (.l p2)))), none, (.move (.t p0)), (nat_lit 0), (nat_lit 8), (nat_lit 0)⟩, ⟨(some (.l (.r (.l p2)))), none, (.more (.more (.more (.nilCheck (.t (.r (.l (.l p2)))))))), (nat_lit 0), (nat_lit 16), (nat_lit 8)⟩, ⟨(some (.r (.r (.l p2)))), none, (.load1 (.t (.l (.r (.l p2))))), (nat_lit 2), (nat_lit 32), (nat_lit 24)⟩, ⟨(some (.l (.l (.r p2)))), none, (.more (.more (.more (.shift true (.t (.r (.r (.l p2)))) (.c (.sc (.int .u64 (.ofNat (nat_lit 17))))))))), (nat_lit 0), (nat_lit 64), (nat_lit 56)⟩, ⟨(some (.r (.l (.r p2)))), none, (.bin .xor (.t (.l (.l (.l p2)))) (.t (.l (.l (.r p2))))), (nat_lit 0), (nat_lit 128), (nat_lit 127)⟩, ⟨(some (.l (.r (.r p2)))), none, (.more (.more (.more (.nilCheck (.t (.l (.r (.r p1)))))))), (nat_lit 0), (nat_lit 256), (nat_lit 255)⟩, ⟨none, none, (.more (.store (nat_lit 1) (.t (.l (.r (.r p2)))) (.t (.r (.l (.r p2)))))), (nat_lit 4), (nat_lit 512), (nat_lit 511)⟩] [] r86x3 := by
  intro call ρ st K
  kernel_rfl
noncomputable def r86x4 : RF := fun call ρ st K => h_op4_nilCheck (.c (ρ p0)) call ρ st (fun v0 st => ld1 st v0 (fun v => (fun v1 st => K [v1] st) v st))
theorem h86x4 : RegOk [⟨(some (.r (.r (.r p2)))), none, (.move (.t p0))⟩, ⟨(some (.l (.l (.l (.l p1))))), none, (.more (.more (.more (.nilCheck (.t (.r (.r (.r p2))))))))⟩, ⟨(some (.r (.l (.l (.l p1))))), none, (.load1 (.t (.l (.l (.l (.l p1))))))⟩, ⟨(some p2), none, (.move (.t (.r (.l (.l (.l p1))))))⟩] [p2] r86x4 := by
  intro call ρ st K
  kernel_rfl
/- (*slices.xorshift).Next -/
noncomputable def cf86 : HF := ⟨(.seq (.reg _ _ _ h86x0)
 (.seq (.drw _ _ _ h86x1)
 (.seq (.drw _ _ _ h86x2)
 (.seq (.drw _ _ _ h86x3)
 (.seq (.reg _ _ _ h86x4)
 .ret))))), [(.tmp p2)], [p0], [(.l p1), (.r p1), (.l p2), (.r p2), (.l (.l p1)), (.r (.l p1)), (.l (.r p1)), (.r (.r p1)), (.l (.l p2)), (.r (.l p2)), (.l (.r p2)), (.r (.r p2)), (.l (.l (.l p1))), (.r (.l (.l p1))), (.l (.r (.l p1))), (.r (.r (.l p1))), (.l (.l (.r p1))), (.r (.l (.r p1))), (.l (.r (.r p1))), (.r (.r (.r p1))), (.l (.l (.l p2))), (.r (.l (.l p2))), (.l (.r (.l p2))), (.r (.r (.l p2))), (.l (.l (.r p2))), (.r (.l (.r p2))), (.l (.r (.r p2))), (.r (.r (.r p2))), (.l (.l (.l (.l p1)))), (.r (.l (.l (.l p1))))]⟩
noncomputable def r85x0 : RF := fun call ρ st K => K [(u6 0)] st
theorem h85x0 : RegOk [⟨(some p2), none, (.move (.c (.sc (.int .u64 (.ofNat (nat_lit 0))))))⟩] [p2] r85x0 := by
  intro call ρ st K
  kernel_rfl
noncomputable def r85x1 : RF := fun call ρ st K => cnv .u64 (ρ p0) (fun v => (fun v0 st => call (nat_lit 52) [v0] st (fun v1 st => h_op4_shift true (.c (u6 1)) (.c v1) call ρ st (fun v2 st => K [v2] st))) v st)
theorem h85x1 : RegOk [⟨(some (.l p1)), none, (.move (.t p0))⟩, ⟨(some (.r p1)), none, (.more (.conv .u64 (.t (.l p1))))⟩, ⟨(some (.l p2)), none, (.call (nat_lit 52) [(.t (.r p1))])⟩, ⟨(some (.r p2)), none, (.more (.more (.more (.shift true (.c (.sc (.int .u64 (.ofNat (nat_lit 1))))) (.t (.l p2))))))⟩, ⟨(some p2), none, (.move (.t (.r p2)))⟩] [p2] r85x1 := by
  intro call ρ st K
  kernel_rfl
/- slices.nextPowerOfTwo -/
noncomputable def cf85 : HF := ⟨(.seq (.reg _ _ _ h85x0)
 (.seq (.reg _ _ _ h85x1)
 .ret)), [(.tmp p2)], [p0], [(.l p1), (.r p1), (.l p2), (.r p2)]⟩
noncomputable def r70x0 : RF := fun call ρ st K => K [(ρ p1)] st
theorem h70x0 : RegOk [⟨(some (.l (.r p2))), none, (.move (.t p1))⟩, ⟨(some (.r (.l p1))), none, (.move (.t (.l (.r p2))))⟩] [(.r (.l p1))] r70x0 := by
  intro call ρ st K
  kernel_rfl
noncomputable def r70x1 : RF := fun call ρ st K => K [(i6 0)] st
theorem h70x1 : RegOk [⟨(some (.l (.r p1))), none, (.move (.c (.sc (.int .i64 (.ofNat (nat_lit 0))))))⟩] [(.l (.r p1))] r70x1 := by
  intro call ρ st K
  kernel_rfl
noncomputable def r70x2 : RF := fun call ρ st K => binK .sub (ρ p2) (ρ p1) (fun v => (fun v0 st => K [v0] st) v st)
theorem h70x2 : RegOk [⟨(some (.r (.r p2))), none, (.move (.t p2))⟩, ⟨(some (.l (.l (.l p1)))), none, (.move (.t p1))⟩, ⟨(some (.r (.l (.l p1)))), none, (.bin .sub (.t (.r (.r p2))) (.t (.l (.l (.l p1)))))⟩, ⟨(some (.r (.r p1))), none, (.move (.t (.r (.l (.l p1)))))⟩] [(.r (.r p1))] r70x2 := by
  intro call ρ st K
  kernel_rfl
noncomputable def r70x3 : RF := fun call ρ st K => binK .sub (ρ (.r (.r p1))) (i6 1) (fun v => (fun v0 st => binK .quo v0 (i6 2) (fun v => (fun v1 st => K [v1] st) v st)) v st)
theorem h70x3 : RegOk [⟨(some (.l (.r (.l p1)))), none, (.move (.t (.r (.r p1))))⟩, ⟨(some (.r (.r (.l p1)))), none, (.bin .sub (.t (.l (.r (.l p1)))) (.c (.sc (.int .i64 (.ofNat (nat_lit 1))))))⟩, ⟨(some (.l (.l (.r p1)))), none, (.bin .quo (.t (.r (.r (.l p1)))) (.c (.sc (.int .i64 (.ofNat (nat_lit 2))))))⟩, ⟨(some (.l (.l p2))), none, (.move (.t (.l (.l (.r p1)))))⟩] [(.l (.l p2))] r70x3 := by
  intro call ρ st K
  kernel_rfl
noncomputable def r70x4 : RF := fun call ρ st K => binK .geq (ρ (.l (.l p2))) (i6 0) (fun v => (fun v0 st => K [v0] st) v st)
theorem h70x4 : RegOk [⟨(some (.r (.l (.r p1)))), none, (.move (.t (.l (.l p2))))⟩, ⟨(some (.l (.r (.r p1)))), none, (.bin .geq (.t (.r (.l (.r p1)))) (.c (.sc (.int .i64 (.ofNat (nat_lit 0))))))⟩] [(.l (.r (.r p1)))] r70x4 := by
  intro call ρ st K
  kernel_rfl
noncomputable def r70x5 : RF := fun call ρ st K => call (nat_lit 84) [(ρ p0), (ρ (.l (.l p2))), (ρ (.r (.r p1))), (ρ (.r (.l p1))), (ρ (.l p1))] st (fun v0 st => K [] st)
theorem h70x5 : RegOk [⟨(some (.r (.l (.l p2)))), none, (.move (.t p0))⟩, ⟨(some (.l (.r (.l p2)))), none, (.move (.t (.l (.l p2))))⟩, ⟨(some (.r (.r (.l p2)))), none, (.move (.t (.r (.r p1))))⟩, ⟨(some (.l (.l (.r p2)))), none, (.move (.t (.r (.l p1))))⟩, ⟨(some (.r (.l (.r p2)))), none, (.move (.t (.l p1)))⟩, ⟨(some (.l (.r (.r p2)))), none, (.call (nat_lit 84) [(.t (.r (.l (.l p2)))), (.t (.l (.r (.l p2)))), (.t (.r (.r (.l p2)))), (.t (.l (.l (.r p2)))), (.t (.r (.l (.r p2))))])⟩] [] r70x5 := by
  intro call ρ st K
  kernel_rfl
noncomputable def r70x6 : RF := fun call ρ st K => binK .sub (ρ (.l (.l p2))) (i6 1) (fun v => (fun v0 st => K [v0] st) v st)
theorem h70x6 : RegOk [⟨(some (.r (.r (.r p1)))), none, (.move (.t (.l (.l p2))))⟩, ⟨(some (.l (.l (.l p2)))), none, (.bin .sub (.t (.r (.r (.r p1)))) (.c (.sc (.int .i64 (.ofNat (nat_lit 1))))))⟩, ⟨(some (.l (.l p2))), none, (.move (.t (.l (.l (.l p2)))))⟩] [(.l (.l p2))] r70x6 := by
  intro call ρ st K
  kernel_rfl
noncomputable def r70x7 : RF := fun call ρ st K => binK .sub (ρ (.r (.r p1))) (i6 1) (fun v => (fun v0 st => K [v0] st) v st)
theorem h70x7 : RegOk [⟨(some (.r (.r (.r p2)))), none, (.move (.t (.r (.r p1))))⟩, ⟨(some (.l (.l (.l (.l p1))))), none, (.bin .sub (.t (.r (.r (.r p2)))) (.c (.sc (.int .i64 (.ofNat (nat_lit 1))))))⟩, ⟨(some (.r (.l p2))), none, (.move (.t (.l (.l (.l (.l p1))))))⟩] [(.r (.l p2))] r70x7 := by
  intro call ρ st K
  kernel_rfl
noncomputable def r70x8 : RF := fun call ρ st K => binK .geq (ρ (.r (.l p2))) (i6 0) (fun v => (fun v0 st => K [v0] st) v st)
theorem h70x8 : RegOk [⟨(some (.r (.l (.l (.l p1))))), none, (.move (.t (.r (.l p2))))⟩, ⟨(some (.l (.r (.l (.l p1))))), none, (.bin .geq (.t (.r (.l (.l (.l p1))))) (.c (.sc (.int .i64 (.ofNat (nat_lit 0))))))⟩] [(.l (.r (.l (.l p1))))] r70x8 := by
  intro call ρ st K
  kernel_rfl
noncomputable def r70x9 : RF := fun call ρ st K => (fun n0 mk => (fun v st => (fun v0 mk st => (fun v st => (fun v1 mk st => (fun v st => (fun v2 mk st => (fun v st => (fun v3 mk st => (fun v st => (fun v4 mk st => binK .add v3 v4 (fun v => (fun v st => (fun v5 mk st => (fun v st => (fun v6 mk st => (fun v st => (fun v7 mk st => (fun v st => (fun v8 mk st => binK .add v7 v8 (fun v => (fun v st => (fun v9 mk st => ixs (nat_lit 1) v6 v9 (fun v => (fun v st => (fun v10 mk st => dw2 n0 mk (nat_lit 2048) (nat_lit 1984) v10 (fun q => ld1 st v10 (fun v => (q) v st)) (fun v11 mk st => (fun v st => (fun v12 mk st => (fun v st => (fun v13 mk st => ixs (nat_lit 1) v12 v13 (fun v => (fun v st => (fun v14 mk st => dw2 n0 mk (nat_lit 32768) (nat_lit 28672) v14 (fun q => ld1 st v14 (fun v => (q) v st)) (fun v15 mk st => ixs (nat_lit 1) v0 v1 (fun v => (fun v st => (fun v16 mk st => dw4 n0 mk (nat_lit 131072) (nat_lit 131011) v16 (fun q => sto st (nat_lit 1) v16 v11 ((q) undefV)) (fun _ mk st => ixs (nat_lit 1) v2 v5 (fun v => (fun v st => (fun v18 mk st => dw4 n0 mk (nat_lit 524288) (nat_lit 524287) v18 (fun q => sto st (nat_lit 1) v18 v15 ((q) undefV)) (fun _ mk st => K [] st)) v mk st) v st))) v mk st) v st))) v mk st) v st)) v mk st) (ρ (.r (.l p1))) st) v mk st) (ρ p0) st)) v mk st) v st)) v mk st) v st)) v mk st) (ρ (.r (.l p2))) st) v mk st) (ρ (.r (.l p1))) st) v mk st) (ρ p0) st) v mk st) v st)) v mk st) (ρ (.r (.l p2))) st) v mk st) (ρ (.r (.l p1))) st) v mk st) (ρ p0) st) v mk st) (ρ (.r (.l p1))) st) v mk st) (ρ p0) st) st.next mk0
theorem h70x9 : DrwOk [⟨(some (.r (.l (.r (.l p1))))), none, (.move (.t p0)), (nat_lit 0), (nat_lit 1), (nat_lit 0)⟩, ⟨(some (.l (.r (.r (.l p1))))), none, (.move (.t (.r (.l p1)))), (nat_lit 0), (nat_lit 2), (nat_lit 0)⟩, ⟨(some (.r (.r (.r (.l p1))))), none, (.move (.t p0)), (nat_lit 0), (nat_lit 4), (nat_lit 0)⟩, ⟨(some (.l (.l (.l (.r p1))))), none, (.move (.t (.r (.l p1)))), (nat_lit 0), (nat_lit 8), (nat_lit 0)⟩, ⟨(some (.r (.l (.l (.r p1))))), none, (.move (.t (.r (.l p2)))), (nat_lit 0), (nat_lit 16), (nat_lit 0)⟩, ⟨(some (.l (.r (.l (.r p1))))), none, (.bin .add (.t (.l (.l (.l (.r p1))))) (.t (.r (.l (.l (.r p1)))))), (nat_lit 0), (nat_lit 32), (nat_lit 24)⟩, ⟨(some (.r (.r (.l (.r p1))))), none, (.move (.t p0)), (nat_lit 0), (nat_lit 64), (nat_lit 0)⟩, ⟨(some (.l (.l (.r (.r p1))))), none, (.move (.t (.r (.l p1)))), (nat_lit 0), (nat_lit 128), (nat_lit 0)⟩, ⟨(some (.r (.l (.r (.r p1))))), none, (.move (.t (.r (.l p2)))), (nat_lit 0), (nat_lit 256), (nat_lit 0)⟩, ⟨(some (.l (.r (.r (.r p1))))), none, (.bin .add (.t (.l (.l (.r (.r p1))))) (.t (.r (.l (.r (.r p1)))))), (nat_lit 0), (nat_lit 512), (nat_lit 384)⟩, ⟨(some (.r (.r (.r (.r p1))))), none, (.idxS (nat_lit 1) (.t (.r (.r (.l (.r p1))))) (.t (.l (.r (.r (.r p1)))))), (nat_lit 0), (nat_lit 1024), (nat_lit 960)⟩, ⟨(some (.l (.l (.l (.l p2))))), none, (.load1 (.t (.r (.r (.r (.r p1)))))), (nat_lit 2), (nat_lit 2048), (nat_lit 1984)⟩, ⟨(some (.r (.l (.l (.l p2))))), none, (.move (.t p0)), (nat_lit 0), (nat_lit 4096), (nat_lit 0)⟩, ⟨(some (.l (.r (.l (.l p2))))), none, (.move (.t (.r (.l p1)))), (nat_lit 0), (nat_lit 8192), (nat_lit 0)⟩, ⟨(some (.r (.r (.l (.l p2))))), none, (.idxS (nat_lit 1) (.t (.r (.l (.l (.l p2))))) (.t (.l (.r (.l (.l p2)))))), (nat_lit 0), (nat_lit 16384), (nat_lit 12288)⟩, ⟨(some (.l (.l (.r (.l p2))))), none, (.load1 (.t (.r (.r (.l (.l p2)))))), (nat_lit 2), (nat_lit 32768), (nat_lit 28672)⟩, ⟨(some (.r (.l (.r (.l p2))))), none, (.idxS (nat_lit 1) (.t (.r (.l (.r (.l p1))))) (.t (.l (.r (.r (.l p1)))))), (nat_lit 0), (nat_lit 65536), (nat_lit 65475)⟩, ⟨none, none, (.more (.store (nat_lit 1) (.t (.r (.l (.r (.l p2))))) (.t (.l (.l (.l (.l p2))))))), (nat_lit 4), (nat_lit 131072), (nat_lit 131011)⟩, ⟨(some (.l (.r (.r (.l p2))))), none, (.idxS (nat_lit 1) (.t (.r (.r (.r (.l p1))))) (.t (.l (.r (.l (.r p1)))))), (nat_lit 0), (nat_lit 262144), (nat_lit 262143)⟩, ⟨none, none, (.more (.store (nat_lit 1) (.t (.l (.r (.r (.l p2))))) (.t (.l (.l (.r (.l p2))))))), (nat_lit 4), (nat_lit 524288), (nat_lit 524287)⟩] [] r70x9 := by
  intro call ρ st K
  kernel_rfl
noncomputable def r70x10 : RF := fun call ρ st K => call (nat_lit 84) [(ρ p0), (ρ (.l (.r p1))), (ρ (.r (.l p2))), (ρ (.r (.l p1))), (ρ (.l p1))] st (fun v0 st => K [] st)
theorem h70x10 : RegOk [⟨(some (.r (.r (.r (.l p2))))), none, (.move (.t p0))⟩, ⟨(some (.l (.l (.l (.r p2))))), none, (.move (.t (.l (.r p1))))⟩, ⟨(some (.r (.l (.l (.r p2))))), none, (.move (.t (.r (.l p2))))⟩, ⟨(some (.l (.r (.l (.r p2))))), none, (.move (.t (.r (.l p1))))⟩, ⟨(some (.r (.r (.l (.r p2))))), none, (.move (.t (.l p1)))⟩, ⟨(some (.l (.l (.r (.r p2))))), none, (.call (nat_lit 84) [(.t (.r (.r (.r (.l p2))))), (.t (.l (.l (.l (.r p2))))), (.t (.r (.l (.l (.r p2))))), (.t (.l (.r (.l (.r p2))))), (.t (.r (.r (.l (.r p2)))))])⟩] [] r70x10 := by
  intro call ρ st K
  kernel_rfl
noncomputable def r70x11 : RF := fun call ρ st K => binK .sub (ρ (.r (.l p2))) (i6 1) (fun v => (fun v0 st => K [v0] st) v st)
theorem h70x11 : RegOk [⟨(some (.r (.r (.l (.l p1))))), none, (.move (.t (.r (.l p2))))⟩, ⟨(some (.l (.l (.r (.l p1))))), none, (.bin .sub (.t (.r (.r (.l (.l p1))))) (.c (.sc (.int .i64 (.ofNat (nat_lit 1))))))⟩, ⟨(some (.r (.l p2))), none, (.move (.t (.l (.l (.r (.l p1))))))⟩] [(.r (.l p2))] r70x11 := by
  intro call ρ st K
  kernel_rfl
/- slices.heapSortCmpFunc[int] -/
noncomputable def cf70 : HF := ⟨(.seq (.reg _ _ _ h70x0)
 (.seq (.reg _ _ _ h70x1)
 (.seq (.reg _ _ _ h70x2)
 (.seq (.seq (.reg _ _ _ h70x3)
 (.block (nat_lit 0) (.loop (.seq (.seq (.reg _ _ _ h70x4)
 (.cond (.t (.l (.r (.r p1)))) .skip
 (.exit (nat_lit 0))))
 (.seq (.block (nat_lit 1) (.reg _ _ _ h70x5))
 (.reg _ _ _ h70x6))))))
 (.seq (.reg _ _ _ h70x7)
 (.block (nat_lit 2) (.loop (.seq (.seq (.reg _ _ _ h70x8)
 (.cond (.t (.l (.r (.l (.l p1))))) .skip
 (.exit (nat_lit 2))))
 (.seq (.block (nat_lit 3) (.seq (.drw _ _ _ h70x9)
 (.reg _ _ _ h70x10)))
 (.reg _ _ _ h70x11)))))))))), [], [p0, p1, p2, (.l p1)], [(.l (.r p2)), (.r (.r p2)), (.l (.l (.l p1))), (.r (.l (.l p1))), (.l (.r (.l p1))), (.r (.r (.l p1))), (.l (.l (.r p1))), (.r (.l (.r p1))), (.r (.l (.l p2))), (.l (.r (.l p2))), (.r (.r (.l p2))), (.l (.l (.r p2))), (.r (.l (.r p2))), (.l (.r (.r p2))), (.r (.r (.r p1))), (.l (.l (.l p2))), (.r (.r (.r p2))), (.l (.l (.l (.l p1)))), (.r (.l (.l (.l p1)))), (.r (.l (.r (.l p1)))), (.l (.r (.r (.l p1)))), (.r (.r (.r (.l p1)))), (.l (.l (.l (.r p1)))), (.r (.l (.l (.r p1)))), (.l (.r (.l (.r p1)))), (.r (.r (.l (.r p1)))), (.l (.l (.r (.r p1)))), (.r (.l (.r (.r p1)))), (.l (.r (.r (.r p1)))), (.r (.r (.r (.r p1)))), (.l (.l (.l (.l p2)))), (.r (.l (.l (.l p2)))), (.l (.r (.l (.l p2)))), (.r (.r (.l (.l p2)))), (.l (.l (.r (.l p2)))), (.r (.l (.r (.l p2)))), (.l (.r (.r (.l p2)))), (.r (.r (.r (.l p2)))), (.l (.l (.l (.r p2)))), (.r (.l (.l (.r p2)))), (.l (.r (.l (.r p2)))), (.r (.r (.l (.r p2)))), (.l (.l (.r (.r p2)))), (.r (.r (.l (.l p1)))), (.l (.l (.r (.l p1))))]⟩
end Go.Proofs.YtffaehgicojjmaaDoor.Ev
