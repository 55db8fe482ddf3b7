/- Compiled functions of the translated program, and that each is what the compiler makes of it; no conditions. -/
import Derived.Test.YtffaehgicojjmaaDoorEvC
import Derived.KernelRfl
namespace Go.Proofs.YtffaehgicojjmaaDoor.Ev
set_option maxRecDepth 100000
set_option linter.unusedVariables false
noncomputable def r84x0 : RF := fun call ρ st K => K [(ρ p1)] st
theorem h84x0 : RegOk [⟨(some (.r (.l p2))), none, (.move (.t p1))⟩, ⟨(some (.r (.r p1))), none, (.move (.t (.r (.l p2))))⟩] [(.r (.r p1))] r84x0 := by
  intro call ρ st K
  kernel_rfl
noncomputable def r84x1 : RF := fun call ρ st K => binK .mul (i6 2) (ρ (.r (.r p1))) (fun v => (fun v0 st => binK .add v0 (i6 1) (fun v => (fun v1 st => K [v1] st) v st)) v st)
theorem h84x1 : RegOk [⟨(some (.l (.r p2))), none, (.move (.t (.r (.r p1))))⟩, ⟨(some (.r (.r p2))), none, (.bin .mul (.c (.sc (.int .i64 (.ofNat (nat_lit 2))))) (.t (.l (.r p2))))⟩, ⟨(some (.l (.l (.l p1)))), none, (.bin .add (.t (.r (.r p2))) (.c (.sc (.int .i64 (.ofNat (nat_lit 1))))))⟩, ⟨(some (.l (.l p2))), none, (.move (.t (.l (.l (.l p1)))))⟩] [(.l (.l p2))] r84x1 := by
  intro call ρ st K
  kernel_rfl
noncomputable def r84x2 : RF := fun call ρ st K => binK .geq (ρ (.l (.l p2))) (ρ p2) (fun v => (fun v0 st => K [v0] st) v st)
theorem h84x2 : RegOk [⟨(some (.r (.l (.l p1)))), none, (.move (.t (.l (.l p2))))⟩, ⟨(some (.l (.r (.l p1)))), none, (.move (.t p2))⟩, ⟨(some (.r (.r (.l p1)))), none, (.bin .geq (.t (.r (.l (.l p1)))) (.t (.l (.r (.l p1)))))⟩] [(.r (.r (.l p1)))] r84x2 := by
  intro call ρ st K
  kernel_rfl
noncomputable def r84x3 : RF := fun call ρ st K => (fun n0 mk => (fun v st => (fun v0 mk st => binK .add v0 (i6 1) (fun v => (fun v st => (fun v1 mk st => (fun v st => (fun v2 mk st => binK .lss v1 v2 (fun v => (fun v st => (fun v3 mk st => (fun v st => (fun v4 mk st => jnD true v4 (fun jj => (fun v st => (jj) v mk st) (ρ (.r p1)) st) mk st (fun v5 mk st => jnD true v4 (fun jj => (fun v st => (jj) v mk st) (ρ p0) st) mk st (fun v6 mk st => jnD true v4 (fun jj => (fun v st => (jj) v mk st) (ρ (.l p1)) st) mk st (fun v7 mk st => jnD true v4 (fun jj => (fun v st => (jj) v mk st) (ρ (.l (.l p2))) st) mk st (fun v8 mk st => jnD true v4 (fun jj => binK .add v7 v8 (fun v => (fun v st => (jj) v mk st) v st)) mk st (fun v9 mk st => jnD true v4 (fun jj => ixs (nat_lit 1) v6 v9 (fun v => (fun v st => (jj) v mk st) v st)) mk st (fun v10 mk st => jnD true v4 (fun jj => dw2 n0 mk (nat_lit 2048) (nat_lit 2015) v10 (fun q => ld1 st v10 (fun v => (q) v st)) (jj)) mk st (fun v11 mk st => jnD true v4 (fun jj => (fun v st => (jj) v mk st) (ρ p0) st) mk st (fun v12 mk st => jnD true v4 (fun jj => (fun v st => (jj) v mk st) (ρ (.l p1)) st) mk st (fun v13 mk st => jnD true v4 (fun jj => (fun v st => (jj) v mk st) (ρ (.l (.l p2))) st) mk st (fun v14 mk st => jnD true v4 (fun jj => binK .add v13 v14 (fun v => (fun v st => (jj) v mk st) v st)) mk st (fun v15 mk st => jnD true v4 (fun jj => binK .add v15 (i6 1) (fun v => (fun v st => (jj) v mk st) v st)) mk st (fun v16 mk st => jnD true v4 (fun jj => ixs (nat_lit 1) v12 v16 (fun v => (fun v st => (jj) v mk st) v st)) mk st (fun v17 mk st => jnD true v4 (fun jj => dw2 n0 mk (nat_lit 262144) (nat_lit 258079) v17 (fun q => ld1 st v17 (fun v => (q) v st)) (jj)) mk st (fun v18 mk st => jnD true v4 (fun jj => dw3 mk (nat_lit 524288) (nat_lit 524287) st (fun st q => h_op4_callV (.c v5) [(.c v11), (.c v18)] call ρ st (q)) (jj)) mk st (fun v19 mk st => jnD true v4 (fun jj => binK .lss v19 (i6 0) (fun v => (fun v st => (jj) v mk st) v st)) mk st (fun v20 mk st => pck v4 v20 (.sc (.bool false)) (fun v => (fun v st => (fun v21 mk st => K [v21] st) v mk st) v st)))))))))))))))))) v mk st) v3 st) v mk st) v st)) v mk st) (ρ p2) st) v mk st) v st)) v mk st) (ρ (.l (.l p2))) st) st.next mk0
theorem h84x3 : DrwOk [⟨(some (.l (.l (.r p1)))), none, (.move (.t (.l (.l p2)))), (nat_lit 0), (nat_lit 1), (nat_lit 0)⟩, ⟨(some (.r (.l (.r p1)))), none, (.bin .add (.t (.l (.l (.r p1)))) (.c (.sc (.int .i64 (.ofNat (nat_lit 1)))))), (nat_lit 0), (nat_lit 2), (nat_lit 1)⟩, ⟨(some (.l (.r (.r p1)))), none, (.move (.t p2)), (nat_lit 0), (nat_lit 4), (nat_lit 0)⟩, ⟨(some (.r (.r (.r p1)))), none, (.bin .lss (.t (.r (.l (.r p1)))) (.t (.l (.r (.r p1))))), (nat_lit 0), (nat_lit 8), (nat_lit 7)⟩, ⟨(some (.l (.l (.l p2)))), none, (.move (.t (.r (.r (.r p1))))), (nat_lit 0), (nat_lit 16), (nat_lit 15)⟩, ⟨(some (.r (.l (.l p2)))), (some ((.l (.l (.l p2))), true)), (.move (.t (.r p1))), (nat_lit 0), (nat_lit 32), (nat_lit 31)⟩, ⟨(some (.l (.r (.l p2)))), (some ((.l (.l (.l p2))), true)), (.move (.t p0)), (nat_lit 0), (nat_lit 64), (nat_lit 31)⟩, ⟨(some (.r (.r (.l p2)))), (some ((.l (.l (.l p2))), true)), (.move (.t (.l p1))), (nat_lit 0), (nat_lit 128), (nat_lit 31)⟩, ⟨(some (.l (.l (.r p2)))), (some ((.l (.l (.l p2))), true)), (.move (.t (.l (.l p2)))), (nat_lit 0), (nat_lit 256), (nat_lit 31)⟩, ⟨(some (.r (.l (.r p2)))), (some ((.l (.l (.l p2))), true)), (.bin .add (.t (.r (.r (.l p2)))) (.t (.l (.l (.r p2))))), (nat_lit 0), (nat_lit 512), (nat_lit 415)⟩, ⟨(some (.l (.r (.r p2)))), (some ((.l (.l (.l p2))), true)), (.idxS (nat_lit 1) (.t (.l (.r (.l p2)))) (.t (.r (.l (.r p2))))), (nat_lit 0), (nat_lit 1024), (nat_lit 991)⟩, ⟨(some (.r (.r (.r p2)))), (some ((.l (.l (.l p2))), true)), (.load1 (.t (.l (.r (.r p2))))), (nat_lit 2), (nat_lit 2048), (nat_lit 2015)⟩, ⟨(some (.l (.l (.l (.l p1))))), (some ((.l (.l (.l p2))), true)), (.move (.t p0)), (nat_lit 0), (nat_lit 4096), (nat_lit 31)⟩, ⟨(some (.r (.l (.l (.l p1))))), (some ((.l (.l (.l p2))), true)), (.move (.t (.l p1))), (nat_lit 0), (nat_lit 8192), (nat_lit 31)⟩, ⟨(some (.l (.r (.l (.l p1))))), (some ((.l (.l (.l p2))), true)), (.move (.t (.l (.l p2)))), (nat_lit 0), (nat_lit 16384), (nat_lit 31)⟩, ⟨(some (.r (.r (.l (.l p1))))), (some ((.l (.l (.l p2))), true)), (.bin .add (.t (.r (.l (.l (.l p1))))) (.t (.l (.r (.l (.l p1)))))), (nat_lit 0), (nat_lit 32768), (nat_lit 24607)⟩, ⟨(some (.l (.l (.r (.l p1))))), (some ((.l (.l (.l p2))), true)), (.bin .add (.t (.r (.r (.l (.l p1))))) (.c (.sc (.int .i64 (.ofNat (nat_lit 1)))))), (nat_lit 0), (nat_lit 65536), (nat_lit 57375)⟩, ⟨(some (.r (.l (.r (.l p1))))), (some ((.l (.l (.l p2))), true)), (.idxS (nat_lit 1) (.t (.l (.l (.l (.l p1))))) (.t (.l (.l (.r (.l p1)))))), (nat_lit 0), (nat_lit 131072), (nat_lit 127007)⟩, ⟨(some (.l (.r (.r (.l p1))))), (some ((.l (.l (.l p2))), true)), (.load1 (.t (.r (.l (.r (.l p1)))))), (nat_lit 2), (nat_lit 262144), (nat_lit 258079)⟩, ⟨(some (.r (.r (.r (.l p1))))), (some ((.l (.l (.l p2))), true)), (.more (.more (.more (.callV (.t (.r (.l (.l p2)))) [(.t (.r (.r (.r p2)))), (.t (.l (.r (.r (.l p1)))))])))), (nat_lit 3), (nat_lit 524288), (nat_lit 524287)⟩, ⟨(some (.l (.l (.l (.r p1))))), (some ((.l (.l (.l p2))), true)), (.bin .lss (.t (.r (.r (.r (.l p1))))) (.c (.sc (.int .i64 (.ofNat (nat_lit 0)))))), (nat_lit 0), (nat_lit 1048576), (nat_lit 1048575)⟩, ⟨(some (.r (.l (.l (.r p1))))), none, (.more (.pick (.t (.l (.l (.l p2)))) (.t (.l (.l (.l (.r p1))))) (.c (.sc (.bool false))))), (nat_lit 0), (nat_lit 2097152), (nat_lit 2097151)⟩] [(.r (.l (.l (.r p1))))] r84x3 := by
  intro call ρ st K
  kernel_rfl
noncomputable def r84x4 : RF := fun call ρ st K => binK .add (ρ (.l (.l p2))) (i6 1) (fun v => (fun v0 st => K [v0] st) v st)
theorem h84x4 : RegOk [⟨(some (.l (.r (.l (.r p1))))), none, (.move (.t (.l (.l p2))))⟩, ⟨(some (.r (.r (.l (.r p1))))), none, (.bin .add (.t (.l (.r (.l (.r p1))))) (.c (.sc (.int .i64 (.ofNat (nat_lit 1))))))⟩, ⟨(some (.l (.l p2))), none, (.move (.t (.r (.r (.l (.r p1))))))⟩] [(.l (.l p2))] r84x4 := by
  intro call ρ st K
  kernel_rfl
noncomputable def r84x5 : RF := fun call ρ st K => (fun n0 mk => (fun v st => (fun v0 mk st => (fun v st => (fun v1 mk st => (fun v st => (fun v2 mk st => (fun v st => (fun v3 mk st => binK .add v2 v3 (fun v => (fun v st => (fun v4 mk st => ixs (nat_lit 1) v1 v4 (fun v => (fun v st => (fun v5 mk st => dw2 n0 mk (nat_lit 64) (nat_lit 62) v5 (fun q => ld1 st v5 (fun v => (q) v st)) (fun v6 mk st => (fun v st => (fun v7 mk st => (fun v st => (fun v8 mk st => (fun v st => (fun v9 mk st => binK .add v8 v9 (fun v => (fun v st => (fun v10 mk st => ixs (nat_lit 1) v7 v10 (fun v => (fun v st => (fun v11 mk st => dw2 n0 mk (nat_lit 4096) (nat_lit 3968) v11 (fun q => ld1 st v11 (fun v => (q) v st)) (fun v12 mk st => dw3 mk (nat_lit 8192) (nat_lit 8191) st (fun st q => h_op4_callV (.c v0) [(.c v6), (.c v12)] call ρ st (q)) (fun v13 mk st => binK .lss v13 (i6 0) (fun v => (fun v st => (fun v14 mk st => nott v14 (fun v => (fun v st => (fun v15 mk st => K [v15] st) v mk st) v st)) v mk st) v st)))) v mk st) v st)) v mk st) v st)) v mk st) (ρ (.l (.l p2))) st) v mk st) (ρ (.l p1)) st) v mk st) (ρ p0) st)) v mk st) v st)) v mk st) v st)) v mk st) (ρ (.r (.r p1))) st) v mk st) (ρ (.l p1)) st) v mk st) (ρ p0) st) v mk st) (ρ (.r p1)) st) st.next mk0
theorem h84x5 : DrwOk [⟨(some (.l (.l (.r (.r p1))))), none, (.move (.t (.r p1))), (nat_lit 0), (nat_lit 1), (nat_lit 0)⟩, ⟨(some (.r (.l (.r (.r p1))))), none, (.move (.t p0)), (nat_lit 0), (nat_lit 2), (nat_lit 0)⟩, ⟨(some (.l (.r (.r (.r p1))))), none, (.move (.t (.l p1))), (nat_lit 0), (nat_lit 4), (nat_lit 0)⟩, ⟨(some (.r (.r (.r (.r p1))))), none, (.move (.t (.r (.r p1)))), (nat_lit 0), (nat_lit 8), (nat_lit 0)⟩, ⟨(some (.l (.l (.l (.l p2))))), none, (.bin .add (.t (.l (.r (.r (.r p1))))) (.t (.r (.r (.r (.r p1)))))), (nat_lit 0), (nat_lit 16), (nat_lit 12)⟩, ⟨(some (.r (.l (.l (.l p2))))), none, (.idxS (nat_lit 1) (.t (.r (.l (.r (.r p1))))) (.t (.l (.l (.l (.l p2)))))), (nat_lit 0), (nat_lit 32), (nat_lit 30)⟩, ⟨(some (.l (.r (.l (.l p2))))), none, (.load1 (.t (.r (.l (.l (.l p2)))))), (nat_lit 2), (nat_lit 64), (nat_lit 62)⟩, ⟨(some (.r (.r (.l (.l p2))))), none, (.move (.t p0)), (nat_lit 0), (nat_lit 128), (nat_lit 0)⟩, ⟨(some (.l (.l (.r (.l p2))))), none, (.move (.t (.l p1))), (nat_lit 0), (nat_lit 256), (nat_lit 0)⟩, ⟨(some (.r (.l (.r (.l p2))))), none, (.move (.t (.l (.l p2)))), (nat_lit 0), (nat_lit 512), (nat_lit 0)⟩, ⟨(some (.l (.r (.r (.l p2))))), none, (.bin .add (.t (.l (.l (.r (.l p2))))) (.t (.r (.l (.r (.l p2)))))), (nat_lit 0), (nat_lit 1024), (nat_lit 768)⟩, ⟨(some (.r (.r (.r (.l p2))))), none, (.idxS (nat_lit 1) (.t (.r (.r (.l (.l p2))))) (.t (.l (.r (.r (.l p2)))))), (nat_lit 0), (nat_lit 2048), (nat_lit 1920)⟩, ⟨(some (.l (.l (.l (.r p2))))), none, (.load1 (.t (.r (.r (.r (.l p2)))))), (nat_lit 2), (nat_lit 4096), (nat_lit 3968)⟩, ⟨(some (.r (.l (.l (.r p2))))), none, (.more (.more (.more (.callV (.t (.l (.l (.r (.r p1))))) [(.t (.l (.r (.l (.l p2))))), (.t (.l (.l (.l (.r p2)))))])))), (nat_lit 3), (nat_lit 8192), (nat_lit 8191)⟩, ⟨(some (.l (.r (.l (.r p2))))), none, (.bin .lss (.t (.r (.l (.l (.r p2))))) (.c (.sc (.int .i64 (.ofNat (nat_lit 0)))))), (nat_lit 0), (nat_lit 16384), (nat_lit 16383)⟩, ⟨(some (.r (.r (.l (.r p2))))), none, (.more (.more (.more (.not (.t (.l (.r (.l (.r p2))))))))), (nat_lit 0), (nat_lit 32768), (nat_lit 32767)⟩] [(.r (.r (.l (.r p2))))] r84x5 := by
  intro call ρ st K
  kernel_rfl
noncomputable def r84x6 : RF := fun call ρ st K => (fun n0 mk => (fun v st => (fun v0 mk st => (fun v st => (fun v1 mk st => (fun v st => (fun v2 mk st => binK .add v1 v2 (fun v => (fun v st => (fun v3 mk st => (fun v st => (fun v4 mk st => (fun v st => (fun v5 mk st => (fun v st => (fun v6 mk st => binK .add v5 v6 (fun v => (fun v st => (fun v7 mk st => (fun v st => (fun v8 mk st => (fun v st => (fun v9 mk st => (fun v st => (fun v10 mk st => binK .add v9 v10 (fun v => (fun v st => (fun v11 mk st => ixs (nat_lit 1) v8 v11 (fun v => (fun v st => (fun v12 mk st => dw2 n0 mk (nat_lit 8192) (nat_lit 7936) v12 (fun q => ld1 st v12 (fun v => (q) v st)) (fun v13 mk st => (fun v st => (fun v14 mk st => (fun v st => (fun v15 mk st => (fun v st => (fun v16 mk st => binK .add v15 v16 (fun v => (fun v st => (fun v17 mk st => ixs (nat_lit 1) v14 v17 (fun v => (fun v st => (fun v18 mk st => dw2 n0 mk (nat_lit 524288) (nat_lit 507904) v18 (fun q => ld1 st v18 (fun v => (q) v st)) (fun v19 mk st => ixs (nat_lit 1) v0 v3 (fun v => (fun v st => (fun v20 mk st => dw4 n0 mk (nat_lit 2097152) (nat_lit 2096911) v20 (fun q => sto st (nat_lit 1) v20 v13 ((q) undefV)) (fun _ mk st => ixs (nat_lit 1) v4 v7 (fun v => (fun v st => (fun v22 mk st => dw4 n0 mk (nat_lit 8388608) (nat_lit 8388607) v22 (fun q => sto st (nat_lit 1) v22 v19 ((q) undefV)) (fun _ mk st => K [] st)) v mk st) v st))) v mk st) v st))) v mk st) v st)) v mk st) v st)) v mk st) (ρ (.r (.r p1))) st) v mk st) (ρ (.l p1)) st) v mk st) (ρ p0) st)) v mk st) v st)) v mk st) v st)) v mk st) (ρ (.l (.l p2))) st) v mk st) (ρ (.l p1)) st) v mk st) (ρ p0) st) v mk st) v st)) v mk st) (ρ (.l (.l p2))) st) v mk st) (ρ (.l p1)) st) v mk st) (ρ p0) st) v mk st) v st)) v mk st) (ρ (.r (.r p1))) st) v mk st) (ρ (.l p1)) st) v mk st) (ρ p0) st) st.next mk0
theorem h84x6 : DrwOk [⟨(some (.l (.l (.r (.r p2))))), none, (.move (.t p0)), (nat_lit 0), (nat_lit 1), (nat_lit 0)⟩, ⟨(some (.r (.l (.r (.r p2))))), none, (.move (.t (.l p1))), (nat_lit 0), (nat_lit 2), (nat_lit 0)⟩, ⟨(some (.l (.r (.r (.r p2))))), none, (.move (.t (.r (.r p1)))), (nat_lit 0), (nat_lit 4), (nat_lit 0)⟩, ⟨(some (.r (.r (.r (.r p2))))), none, (.bin .add (.t (.r (.l (.r (.r p2))))) (.t (.l (.r (.r (.r p2)))))), (nat_lit 0), (nat_lit 8), (nat_lit 6)⟩, ⟨(some (.l (.l (.l (.l (.l p1)))))), none, (.move (.t p0)), (nat_lit 0), (nat_lit 16), (nat_lit 0)⟩, ⟨(some (.r (.l (.l (.l (.l p1)))))), none, (.move (.t (.l p1))), (nat_lit 0), (nat_lit 32), (nat_lit 0)⟩, ⟨(some (.l (.r (.l (.l (.l p1)))))), none, (.move (.t (.l (.l p2)))), (nat_lit 0), (nat_lit 64), (nat_lit 0)⟩, ⟨(some (.r (.r (.l (.l (.l p1)))))), none, (.bin .add (.t (.r (.l (.l (.l (.l p1)))))) (.t (.l (.r (.l (.l (.l p1))))))), (nat_lit 0), (nat_lit 128), (nat_lit 96)⟩, ⟨(some (.l (.l (.r (.l (.l p1)))))), none, (.move (.t p0)), (nat_lit 0), (nat_lit 256), (nat_lit 0)⟩, ⟨(some (.r (.l (.r (.l (.l p1)))))), none, (.move (.t (.l p1))), (nat_lit 0), (nat_lit 512), (nat_lit 0)⟩, ⟨(some (.l (.r (.r (.l (.l p1)))))), none, (.move (.t (.l (.l p2)))), (nat_lit 0), (nat_lit 1024), (nat_lit 0)⟩, ⟨(some (.r (.r (.r (.l (.l p1)))))), none, (.bin .add (.t (.r (.l (.r (.l (.l p1)))))) (.t (.l (.r (.r (.l (.l p1))))))), (nat_lit 0), (nat_lit 2048), (nat_lit 1536)⟩, ⟨(some (.l (.l (.l (.r (.l p1)))))), none, (.idxS (nat_lit 1) (.t (.l (.l (.r (.l (.l p1)))))) (.t (.r (.r (.r (.l (.l p1))))))), (nat_lit 0), (nat_lit 4096), (nat_lit 3840)⟩, ⟨(some (.r (.l (.l (.r (.l p1)))))), none, (.load1 (.t (.l (.l (.l (.r (.l p1))))))), (nat_lit 2), (nat_lit 8192), (nat_lit 7936)⟩, ⟨(some (.l (.r (.l (.r (.l p1)))))), none, (.move (.t p0)), (nat_lit 0), (nat_lit 16384), (nat_lit 0)⟩, ⟨(some (.r (.r (.l (.r (.l p1)))))), none, (.move (.t (.l p1))), (nat_lit 0), (nat_lit 32768), (nat_lit 0)⟩, ⟨(some (.l (.l (.r (.r (.l p1)))))), none, (.move (.t (.r (.r p1)))), (nat_lit 0), (nat_lit 65536), (nat_lit 0)⟩, ⟨(some (.r (.l (.r (.r (.l p1)))))), none, (.bin .add (.t (.r (.r (.l (.r (.l p1)))))) (.t (.l (.l (.r (.r (.l p1))))))), (nat_lit 0), (nat_lit 131072), (nat_lit 98304)⟩, ⟨(some (.l (.r (.r (.r (.l p1)))))), none, (.idxS (nat_lit 1) (.t (.l (.r (.l (.r (.l p1)))))) (.t (.r (.l (.r (.r (.l p1))))))), (nat_lit 0), (nat_lit 262144), (nat_lit 245760)⟩, ⟨(some (.r (.r (.r (.r (.l p1)))))), none, (.load1 (.t (.l (.r (.r (.r (.l p1))))))), (nat_lit 2), (nat_lit 524288), (nat_lit 507904)⟩, ⟨(some (.l (.l (.l (.l (.r p1)))))), none, (.idxS (nat_lit 1) (.t (.l (.l (.r (.r p2))))) (.t (.r (.r (.r (.r p2)))))), (nat_lit 0), (nat_lit 1048576), (nat_lit 1048335)⟩, ⟨none, none, (.more (.store (nat_lit 1) (.t (.l (.l (.l (.l (.r p1)))))) (.t (.r (.l (.l (.r (.l p1)))))))), (nat_lit 4), (nat_lit 2097152), (nat_lit 2096911)⟩, ⟨(some (.r (.l (.l (.l (.r p1)))))), none, (.idxS (nat_lit 1) (.t (.l (.l (.l (.l (.l p1)))))) (.t (.r (.r (.l (.l (.l p1))))))), (nat_lit 0), (nat_lit 4194304), (nat_lit 4194303)⟩, ⟨none, none, (.more (.store (nat_lit 1) (.t (.r (.l (.l (.l (.r p1)))))) (.t (.r (.r (.r (.r (.l p1)))))))), (nat_lit 4), (nat_lit 8388608), (nat_lit 8388607)⟩] [] r84x6 := by
  intro call ρ st K
  kernel_rfl
noncomputable def r84x7 : RF := fun call ρ st K => K [(ρ (.l (.l p2)))] st
theorem h84x7 : RegOk [⟨(some (.l (.r (.l (.l (.r p1)))))), none, (.move (.t (.l (.l p2))))⟩, ⟨(some (.r (.r p1))), none, (.move (.t (.l (.r (.l (.l (.r p1)))))))⟩] [(.r (.r p1))] r84x7 := by
  intro call ρ st K
  kernel_rfl
/- slices.siftDownCmpFunc[int] -/
noncomputable def cf84 : HF := ⟨(.seq (.reg _ _ _ h84x0)
 (.block (nat_lit 0) (.loop (.block (nat_lit 1) (.seq (.reg _ _ _ h84x1)
 (.seq (.seq (.reg _ _ _ h84x2)
 (.cond (.t (.r (.r (.l p1)))) (.exit (nat_lit 0))
 .skip))
 (.seq (.seq (.drw _ _ _ h84x3)
 (.cond (.t (.r (.l (.l (.r p1))))) (.reg _ _ _ h84x4)
 .skip))
 (.seq (.seq (.drw _ _ _ h84x5)
 (.cond (.t (.r (.r (.l (.r p2))))) .ret
 .skip))
 (.seq (.drw _ _ _ h84x6)
 (.reg _ _ _ h84x7)))))))))), [], [p0, p1, p2, (.l p1), (.r p1)], [(.r (.l p2)), (.l (.r p2)), (.r (.r p2)), (.l (.l (.l p1))), (.r (.l (.l p1))), (.l (.r (.l p1))), (.l (.l (.r p1))), (.r (.l (.r p1))), (.l (.r (.r p1))), (.r (.r (.r p1))), (.l (.l (.l p2))), (.r (.l (.l p2))), (.l (.r (.l p2))), (.r (.r (.l p2))), (.l (.l (.r p2))), (.r (.l (.r p2))), (.l (.r (.r p2))), (.r (.r (.r p2))), (.l (.l (.l (.l p1)))), (.r (.l (.l (.l p1)))), (.l (.r (.l (.l p1)))), (.r (.r (.l (.l p1)))), (.l (.l (.r (.l p1)))), (.r (.l (.r (.l p1)))), (.l (.r (.r (.l p1)))), (.r (.r (.r (.l p1)))), (.l (.l (.l (.r p1)))), (.l (.r (.l (.r p1)))), (.r (.r (.l (.r p1)))), (.l (.l (.r (.r p1)))), (.r (.l (.r (.r p1)))), (.l (.r (.r (.r p1)))), (.r (.r (.r (.r p1)))), (.l (.l (.l (.l p2)))), (.r (.l (.l (.l p2)))), (.l (.r (.l (.l p2)))), (.r (.r (.l (.l p2)))), (.l (.l (.r (.l p2)))), (.r (.l (.r (.l p2)))), (.l (.r (.r (.l p2)))), (.r (.r (.r (.l p2)))), (.l (.l (.l (.r p2)))), (.r (.l (.l (.r p2)))), (.l (.r (.l (.r p2)))), (.l (.l (.r (.r p2)))), (.r (.l (.r (.r p2)))), (.l (.r (.r (.r p2)))), (.r (.r (.r (.r p2)))), (.l (.l (.l (.l (.l p1))))), (.r (.l (.l (.l (.l p1))))), (.l (.r (.l (.l (.l p1))))), (.r (.r (.l (.l (.l p1))))), (.l (.l (.r (.l (.l p1))))), (.r (.l (.r (.l (.l p1))))), (.l (.r (.r (.l (.l p1))))), (.r (.r (.r (.l (.l p1))))), (.l (.l (.l (.r (.l p1))))), (.r (.l (.l (.r (.l p1))))), (.l (.r (.l (.r (.l p1))))), (.r (.r (.l (.r (.l p1))))), (.l (.l (.r (.r (.l p1))))), (.r (.l (.r (.r (.l p1))))), (.l (.r (.r (.r (.l p1))))), (.r (.r (.r (.r (.l p1))))), (.l (.l (.l (.l (.r p1))))), (.r (.l (.l (.l (.r p1))))), (.l (.r (.l (.l (.r p1)))))]⟩
noncomputable def r69x0 : RF := fun call ρ st K => binK .add (ρ p1) (i6 1) (fun v => (fun v0 st => K [v0] st) v st)
theorem h69x0 : RegOk [⟨(some (.r (.r p1))), none, (.move (.t p1))⟩, ⟨(some (.l (.l p2))), none, (.bin .add (.t (.r (.r p1))) (.c (.sc (.int .i64 (.ofNat (nat_lit 1))))))⟩, ⟨(some (.r (.l p1))), none, (.move (.t (.l (.l p2))))⟩] [(.r (.l p1))] r69x0 := by
  intro call ρ st K
  kernel_rfl
noncomputable def r69x1 : RF := fun call ρ st K => binK .lss (ρ (.r (.l p1))) (ρ p2) (fun v => (fun v0 st => K [v0] st) v st)
theorem h69x1 : RegOk [⟨(some (.r (.l p2))), none, (.move (.t (.r (.l p1))))⟩, ⟨(some (.l (.r p2))), none, (.move (.t p2))⟩, ⟨(some (.r (.r p2))), none, (.bin .lss (.t (.r (.l p2))) (.t (.l (.r p2))))⟩] [(.r (.r p2))] r69x1 := by
  intro call ρ st K
  kernel_rfl
noncomputable def r69x2 : RF := fun call ρ st K => K [(ρ (.r (.l p1)))] st
theorem h69x2 : RegOk [⟨(some (.l (.r (.l p1)))), none, (.move (.t (.r (.l p1))))⟩, ⟨(some (.l (.r p1))), none, (.move (.t (.l (.r (.l p1)))))⟩] [(.l (.r p1))] r69x2 := by
  intro call ρ st K
  kernel_rfl
noncomputable def r69x3 : RF := fun call ρ st K => (fun n0 mk => (fun v st => (fun v0 mk st => (fun v st => (fun v1 mk st => binK .gtr v0 v1 (fun v => (fun v st => (fun v2 mk st => (fun v st => (fun v3 mk st => jnD true v3 (fun jj => (fun v st => (jj) v mk st) (ρ (.l p1)) st) mk st (fun v4 mk st => jnD true v3 (fun jj => (fun v st => (jj) v mk st) (ρ p0) st) mk st (fun v5 mk st => jnD true v3 (fun jj => (fun v st => (jj) v mk st) (ρ (.l (.r p1))) st) mk st (fun v6 mk st => jnD true v3 (fun jj => ixs (nat_lit 1) v5 v6 (fun v => (fun v st => (jj) v mk st) v st)) mk st (fun v7 mk st => jnD true v3 (fun jj => dw2 n0 mk (nat_lit 256) (nat_lit 239) v7 (fun q => ld1 st v7 (fun v => (q) v st)) (jj)) mk st (fun v8 mk st => jnD true v3 (fun jj => (fun v st => (jj) v mk st) (ρ p0) st) mk st (fun v9 mk st => jnD true v3 (fun jj => (fun v st => (jj) v mk st) (ρ (.l (.r p1))) st) mk st (fun v10 mk st => jnD true v3 (fun jj => binK .sub v10 (i6 1) (fun v => (fun v st => (jj) v mk st) v st)) mk st (fun v11 mk st => jnD true v3 (fun jj => ixs (nat_lit 1) v9 v11 (fun v => (fun v st => (jj) v mk st) v st)) mk st (fun v12 mk st => jnD true v3 (fun jj => dw2 n0 mk (nat_lit 8192) (nat_lit 7695) v12 (fun q => ld1 st v12 (fun v => (q) v st)) (jj)) mk st (fun v13 mk st => jnD true v3 (fun jj => dw3 mk (nat_lit 16384) (nat_lit 16383) st (fun st q => h_op4_callV (.c v4) [(.c v8), (.c v13)] call ρ st (q)) (jj)) mk st (fun v14 mk st => jnD true v3 (fun jj => binK .lss v14 (i6 0) (fun v => (fun v st => (jj) v mk st) v st)) mk st (fun v15 mk st => pck v3 v15 (.sc (.bool false)) (fun v => (fun v st => (fun v16 mk st => K [v16] st) v mk st) v st)))))))))))))) v mk st) v2 st) v mk st) v st)) v mk st) (ρ p1) st) v mk st) (ρ (.l (.r p1))) st) st.next mk0
theorem h69x3 : DrwOk [⟨(some (.r (.r (.l p1)))), none, (.move (.t (.l (.r p1)))), (nat_lit 0), (nat_lit 1), (nat_lit 0)⟩, ⟨(some (.l (.l (.r p1)))), none, (.move (.t p1)), (nat_lit 0), (nat_lit 2), (nat_lit 0)⟩, ⟨(some (.r (.l (.r p1)))), none, (.bin .gtr (.t (.r (.r (.l p1)))) (.t (.l (.l (.r p1))))), (nat_lit 0), (nat_lit 4), (nat_lit 3)⟩, ⟨(some (.l (.r (.r p1)))), none, (.move (.t (.r (.l (.r p1))))), (nat_lit 0), (nat_lit 8), (nat_lit 7)⟩, ⟨(some (.r (.r (.r p1)))), (some ((.l (.r (.r p1))), true)), (.move (.t (.l p1))), (nat_lit 0), (nat_lit 16), (nat_lit 15)⟩, ⟨(some (.l (.l (.l p2)))), (some ((.l (.r (.r p1))), true)), (.move (.t p0)), (nat_lit 0), (nat_lit 32), (nat_lit 15)⟩, ⟨(some (.r (.l (.l p2)))), (some ((.l (.r (.r p1))), true)), (.move (.t (.l (.r p1)))), (nat_lit 0), (nat_lit 64), (nat_lit 15)⟩, ⟨(some (.l (.r (.l p2)))), (some ((.l (.r (.r p1))), true)), (.idxS (nat_lit 1) (.t (.l (.l (.l p2)))) (.t (.r (.l (.l p2))))), (nat_lit 0), (nat_lit 128), (nat_lit 111)⟩, ⟨(some (.r (.r (.l p2)))), (some ((.l (.r (.r p1))), true)), (.load1 (.t (.l (.r (.l p2))))), (nat_lit 2), (nat_lit 256), (nat_lit 239)⟩, ⟨(some (.l (.l (.r p2)))), (some ((.l (.r (.r p1))), true)), (.move (.t p0)), (nat_lit 0), (nat_lit 512), (nat_lit 15)⟩, ⟨(some (.r (.l (.r p2)))), (some ((.l (.r (.r p1))), true)), (.move (.t (.l (.r p1)))), (nat_lit 0), (nat_lit 1024), (nat_lit 15)⟩, ⟨(some (.l (.r (.r p2)))), (some ((.l (.r (.r p1))), true)), (.bin .sub (.t (.r (.l (.r p2)))) (.c (.sc (.int .i64 (.ofNat (nat_lit 1)))))), (nat_lit 0), (nat_lit 2048), (nat_lit 1039)⟩, ⟨(some (.r (.r (.r p2)))), (some ((.l (.r (.r p1))), true)), (.idxS (nat_lit 1) (.t (.l (.l (.r p2)))) (.t (.l (.r (.r p2))))), (nat_lit 0), (nat_lit 4096), (nat_lit 3599)⟩, ⟨(some (.l (.l (.l (.l p1))))), (some ((.l (.r (.r p1))), true)), (.load1 (.t (.r (.r (.r p2))))), (nat_lit 2), (nat_lit 8192), (nat_lit 7695)⟩, ⟨(some (.r (.l (.l (.l p1))))), (some ((.l (.r (.r p1))), true)), (.more (.more (.more (.callV (.t (.r (.r (.r p1)))) [(.t (.r (.r (.l p2)))), (.t (.l (.l (.l (.l p1)))))])))), (nat_lit 3), (nat_lit 16384), (nat_lit 16383)⟩, ⟨(some (.l (.r (.l (.l p1))))), (some ((.l (.r (.r p1))), true)), (.bin .lss (.t (.r (.l (.l (.l p1))))) (.c (.sc (.int .i64 (.ofNat (nat_lit 0)))))), (nat_lit 0), (nat_lit 32768), (nat_lit 32767)⟩, ⟨(some (.r (.r (.l (.l p1))))), none, (.more (.pick (.t (.l (.r (.r p1)))) (.t (.l (.r (.l (.l p1))))) (.c (.sc (.bool false))))), (nat_lit 0), (nat_lit 65536), (nat_lit 65535)⟩] [(.r (.r (.l (.l p1))))] r69x3 := by
  intro call ρ st K
  kernel_rfl
noncomputable def r69x4 : RF := fun call ρ st K => (fun n0 mk => (fun v st => (fun v0 mk st => (fun v st => (fun v1 mk st => (fun v st => (fun v2 mk st => (fun v st => (fun v3 mk st => binK .sub v3 (i6 1) (fun v => (fun v st => (fun v4 mk st => (fun v st => (fun v5 mk st => (fun v st => (fun v6 mk st => binK .sub v6 (i6 1) (fun v => (fun v st => (fun v7 mk st => ixs (nat_lit 1) v5 v7 (fun v => (fun v st => (fun v8 mk st => dw2 n0 mk (nat_lit 512) (nat_lit 480) v8 (fun q => ld1 st v8 (fun v => (q) v st)) (fun v9 mk st => (fun v st => (fun v10 mk st => (fun v st => (fun v11 mk st => ixs (nat_lit 1) v10 v11 (fun v => (fun v st => (fun v12 mk st => dw2 n0 mk (nat_lit 8192) (nat_lit 7168) v12 (fun q => ld1 st v12 (fun v => (q) v st)) (fun v13 mk st => ixs (nat_lit 1) v0 v1 (fun v => (fun v st => (fun v14 mk st => dw4 n0 mk (nat_lit 32768) (nat_lit 32739) v14 (fun q => sto st (nat_lit 1) v14 v9 ((q) undefV)) (fun _ mk st => ixs (nat_lit 1) v2 v4 (fun v => (fun v st => (fun v16 mk st => dw4 n0 mk (nat_lit 131072) (nat_lit 131071) v16 (fun q => sto st (nat_lit 1) v16 v13 ((q) undefV)) (fun _ mk st => K [] st)) v mk st) v st))) v mk st) v st))) v mk st) v st)) v mk st) (ρ (.l (.r p1))) st) v mk st) (ρ p0) st)) v mk st) v st)) v mk st) v st)) v mk st) (ρ (.l (.r p1))) st) v mk st) (ρ p0) st) v mk st) v st)) v mk st) (ρ (.l (.r p1))) st) v mk st) (ρ p0) st) v mk st) (ρ (.l (.r p1))) st) v mk st) (ρ p0) st) st.next mk0
theorem h69x4 : DrwOk [⟨(some (.l (.r (.r (.l p1))))), none, (.move (.t p0)), (nat_lit 0), (nat_lit 1), (nat_lit 0)⟩, ⟨(some (.r (.r (.r (.l p1))))), none, (.move (.t (.l (.r p1)))), (nat_lit 0), (nat_lit 2), (nat_lit 0)⟩, ⟨(some (.l (.l (.l (.r p1))))), none, (.move (.t p0)), (nat_lit 0), (nat_lit 4), (nat_lit 0)⟩, ⟨(some (.r (.l (.l (.r p1))))), none, (.move (.t (.l (.r p1)))), (nat_lit 0), (nat_lit 8), (nat_lit 0)⟩, ⟨(some (.l (.r (.l (.r p1))))), none, (.bin .sub (.t (.r (.l (.l (.r p1))))) (.c (.sc (.int .i64 (.ofNat (nat_lit 1)))))), (nat_lit 0), (nat_lit 16), (nat_lit 8)⟩, ⟨(some (.r (.r (.l (.r p1))))), none, (.move (.t p0)), (nat_lit 0), (nat_lit 32), (nat_lit 0)⟩, ⟨(some (.l (.l (.r (.r p1))))), none, (.move (.t (.l (.r p1)))), (nat_lit 0), (nat_lit 64), (nat_lit 0)⟩, ⟨(some (.r (.l (.r (.r p1))))), none, (.bin .sub (.t (.l (.l (.r (.r p1))))) (.c (.sc (.int .i64 (.ofNat (nat_lit 1)))))), (nat_lit 0), (nat_lit 128), (nat_lit 64)⟩, ⟨(some (.l (.r (.r (.r p1))))), none, (.idxS (nat_lit 1) (.t (.r (.r (.l (.r p1))))) (.t (.r (.l (.r (.r p1)))))), (nat_lit 0), (nat_lit 256), (nat_lit 224)⟩, ⟨(some (.r (.r (.r (.r p1))))), none, (.load1 (.t (.l (.r (.r (.r p1)))))), (nat_lit 2), (nat_lit 512), (nat_lit 480)⟩, ⟨(some (.l (.l (.l (.l p2))))), none, (.move (.t p0)), (nat_lit 0), (nat_lit 1024), (nat_lit 0)⟩, ⟨(some (.r (.l (.l (.l p2))))), none, (.move (.t (.l (.r p1)))), (nat_lit 0), (nat_lit 2048), (nat_lit 0)⟩, ⟨(some (.l (.r (.l (.l p2))))), none, (.idxS (nat_lit 1) (.t (.l (.l (.l (.l p2))))) (.t (.r (.l (.l (.l p2)))))), (nat_lit 0), (nat_lit 4096), (nat_lit 3072)⟩, ⟨(some (.r (.r (.l (.l p2))))), none, (.load1 (.t (.l (.r (.l (.l p2)))))), (nat_lit 2), (nat_lit 8192), (nat_lit 7168)⟩, ⟨(some (.l (.l (.r (.l p2))))), none, (.idxS (nat_lit 1) (.t (.l (.r (.r (.l p1))))) (.t (.r (.r (.r (.l p1)))))), (nat_lit 0), (nat_lit 16384), (nat_lit 16355)⟩, ⟨none, none, (.more (.store (nat_lit 1) (.t (.l (.l (.r (.l p2))))) (.t (.r (.r (.r (.r p1))))))), (nat_lit 4), (nat_lit 32768), (nat_lit 32739)⟩, ⟨(some (.r (.l (.r (.l p2))))), none, (.idxS (nat_lit 1) (.t (.l (.l (.l (.r p1))))) (.t (.l (.r (.l (.r p1)))))), (nat_lit 0), (nat_lit 65536), (nat_lit 65535)⟩, ⟨none, none, (.more (.store (nat_lit 1) (.t (.r (.l (.r (.l p2))))) (.t (.r (.r (.l (.l p2))))))), (nat_lit 4), (nat_lit 131072), (nat_lit 131071)⟩] [] r69x4 := by
  intro call ρ st K
  kernel_rfl
noncomputable def r69x5 : RF := fun call ρ st K => binK .sub (ρ (.l (.r p1))) (i6 1) (fun v => (fun v0 st => K [v0] st) v st)
theorem h69x5 : RegOk [⟨(some (.l (.l (.r (.l p1))))), none, (.move (.t (.l (.r p1))))⟩, ⟨(some (.r (.l (.r (.l p1))))), none, (.bin .sub (.t (.l (.l (.r (.l p1))))) (.c (.sc (.int .i64 (.ofNat (nat_lit 1))))))⟩, ⟨(some (.l (.r p1))), none, (.move (.t (.r (.l (.r (.l p1))))))⟩] [(.l (.r p1))] r69x5 := by
  intro call ρ st K
  kernel_rfl
noncomputable def r69x6 : RF := fun call ρ st K => binK .add (ρ (.r (.l p1))) (i6 1) (fun v => (fun v0 st => K [v0] st) v st)
theorem h69x6 : RegOk [⟨(some (.l (.l (.l p1)))), none, (.move (.t (.r (.l p1))))⟩, ⟨(some (.r (.l (.l p1)))), none, (.bin .add (.t (.l (.l (.l p1)))) (.c (.sc (.int .i64 (.ofNat (nat_lit 1))))))⟩, ⟨(some (.r (.l p1))), none, (.move (.t (.r (.l (.l p1)))))⟩] [(.r (.l p1))] r69x6 := by
  intro call ρ st K
  kernel_rfl
/- slices.insertionSortCmpFunc[int] -/
noncomputable def cf69 : HF := ⟨(.seq (.reg _ _ _ h69x0)
 (.block (nat_lit 0) (.loop (.seq (.seq (.reg _ _ _ h69x1)
 (.cond (.t (.r (.r p2))) .skip
 (.exit (nat_lit 0))))
 (.seq (.block (nat_lit 1) (.seq (.reg _ _ _ h69x2)
 (.block (nat_lit 2) (.loop (.seq (.seq (.drw _ _ _ h69x3)
 (.cond (.t (.r (.r (.l (.l p1))))) .skip
 (.exit (nat_lit 2))))
 (.seq (.block (nat_lit 3) (.drw _ _ _ h69x4))
 (.reg _ _ _ h69x5)))))))
 (.reg _ _ _ h69x6)))))), [], [p0, p1, p2, (.l p1)], [(.r (.r p1)), (.l (.l p2)), (.r (.l p2)), (.l (.r p2)), (.l (.r (.l p1))), (.r (.r (.l p1))), (.l (.l (.r p1))), (.r (.l (.r p1))), (.l (.r (.r p1))), (.r (.r (.r p1))), (.l (.l (.l p2))), (.r (.l (.l p2))), (.l (.r (.l p2))), (.r (.r (.l p2))), (.l (.l (.r p2))), (.r (.l (.r p2))), (.l (.r (.r p2))), (.r (.r (.r p2))), (.l (.l (.l (.l p1)))), (.r (.l (.l (.l p1)))), (.l (.r (.l (.l p1)))), (.l (.r (.r (.l p1)))), (.r (.r (.r (.l p1)))), (.l (.l (.l (.r p1)))), (.r (.l (.l (.r p1)))), (.l (.r (.l (.r p1)))), (.r (.r (.l (.r p1)))), (.l (.l (.r (.r p1)))), (.r (.l (.r (.r p1)))), (.l (.r (.r (.r p1)))), (.r (.r (.r (.r p1)))), (.l (.l (.l (.l p2)))), (.r (.l (.l (.l p2)))), (.l (.r (.l (.l p2)))), (.r (.r (.l (.l p2)))), (.l (.l (.r (.l p2)))), (.r (.l (.r (.l p2)))), (.l (.l (.r (.l p1)))), (.r (.l (.r (.l p1)))), (.l (.l (.l p1))), (.r (.l (.l p1)))]⟩
noncomputable def r52x0 : RF := fun call ρ st K => K [(i6 0)] st
theorem h52x0 : RegOk [⟨(some p2), none, (.move (.c (.sc (.int .i64 (.ofNat (nat_lit 0))))))⟩] [p2] r52x0 := by
  intro call ρ st K
  kernel_rfl
noncomputable def r52x1 : RF := fun call ρ st K => cnv .u32 (ρ p0) (fun v => (fun v0 st => call (nat_lit 77) [v0] st (fun v1 st => K [v1] st)) v st)
theorem h52x1 : RegOk [⟨(some (.l p1)), none, (.move (.t p0))⟩, ⟨(some (.r p1)), none, (.more (.conv .u32 (.t (.l p1))))⟩, ⟨(some (.l p2)), none, (.call (nat_lit 77) [(.t (.r p1))])⟩, ⟨(some p2), none, (.move (.t (.l p2)))⟩] [p2] r52x1 := by
  intro call ρ st K
  kernel_rfl
noncomputable def r52x2 : RF := fun call ρ st K => call (nat_lit 78) [(ρ p0)] st (fun v0 st => K [v0] st)
theorem h52x2 : RegOk [⟨(some (.r p2)), none, (.move (.t p0))⟩, ⟨(some (.l (.l p1))), none, (.call (nat_lit 78) [(.t (.r p2))])⟩, ⟨(some p2), none, (.move (.t (.l (.l p1))))⟩] [p2] r52x2 := by
  intro call ρ st K
  kernel_rfl
/- math/bits.Len -/
noncomputable def cf52 : HF := ⟨(.seq (.reg _ _ _ h52x0)
 (.seq (.cond (.c (.sc (.bool false))) (.seq (.reg _ _ _ h52x1)
 .ret)
 .skip)
 (.seq (.reg _ _ _ h52x2)
 .ret))), [(.tmp p2)], [p0], [(.l p1), (.r p1), (.l p2), (.r p2), (.l (.l p1))]⟩
noncomputable def r78x0 : RF := fun call ρ st K => K [(i6 0)] st
theorem h78x0 : RegOk [⟨(some p2), none, (.move (.c (.sc (.int .i64 (.ofNat (nat_lit 0))))))⟩] [p2] r78x0 := by
  intro call ρ st K
  kernel_rfl
noncomputable def r78x1 : RF := fun call ρ st K => binK .geq (ρ p0) (u6 4294967296) (fun v => (fun v0 st => K [v0] st) v st)
theorem h78x1 : RegOk [⟨(some (.l p1)), none, (.move (.t p0))⟩, ⟨(some (.r p1)), none, (.bin .geq (.t (.l p1)) (.c (.sc (.int .u64 (.ofNat (nat_lit 4294967296))))))⟩] [(.r p1)] r78x1 := by
  intro call ρ st K
  kernel_rfl
noncomputable def r78x2 : RF := fun call ρ st K => h_op4_shift false (.c (ρ p0)) (.c (u6 32)) call ρ st (fun v0 st => K [v0] st)
theorem h78x2 : RegOk [⟨(some (.l p2)), none, (.move (.t p0))⟩, ⟨(some (.r p2)), none, (.more (.more (.more (.shift false (.t (.l p2)) (.c (.sc (.int .u64 (.ofNat (nat_lit 32)))))))))⟩, ⟨(some p0), none, (.move (.t (.r p2)))⟩] [p0] r78x2 := by
  intro call ρ st K
  kernel_rfl
noncomputable def r78x3 : RF := fun call ρ st K => K [(i6 32)] st
theorem h78x3 : RegOk [⟨(some p2), none, (.move (.c (.sc (.int .i64 (.ofNat (nat_lit 32))))))⟩] [p2] r78x3 := by
  intro call ρ st K
  kernel_rfl
noncomputable def r78x4 : RF := fun call ρ st K => binK .geq (ρ p0) (u6 65536) (fun v => (fun v0 st => K [v0] st) v st)
theorem h78x4 : RegOk [⟨(some (.l (.l p1))), none, (.move (.t p0))⟩, ⟨(some (.r (.l p1))), none, (.bin .geq (.t (.l (.l p1))) (.c (.sc (.int .u64 (.ofNat (nat_lit 65536))))))⟩] [(.r (.l p1))] r78x4 := by
  intro call ρ st K
  kernel_rfl
noncomputable def r78x5 : RF := fun call ρ st K => h_op4_shift false (.c (ρ p0)) (.c (u6 16)) call ρ st (fun v0 st => K [v0] st)
theorem h78x5 : RegOk [⟨(some (.l (.r p1))), none, (.move (.t p0))⟩, ⟨(some (.r (.r p1))), none, (.more (.more (.more (.shift false (.t (.l (.r p1))) (.c (.sc (.int .u64 (.ofNat (nat_lit 16)))))))))⟩, ⟨(some p0), none, (.move (.t (.r (.r p1))))⟩] [p0] r78x5 := by
  intro call ρ st K
  kernel_rfl
noncomputable def r78x6 : RF := fun call ρ st K => binK .add (ρ p2) (i6 16) (fun v => (fun v0 st => K [v0] st) v st)
theorem h78x6 : RegOk [⟨(some (.l (.l p2))), none, (.move (.t p2))⟩, ⟨(some (.r (.l p2))), none, (.bin .add (.t (.l (.l p2))) (.c (.sc (.int .i64 (.ofNat (nat_lit 16))))))⟩, ⟨(some p2), none, (.move (.t (.r (.l p2))))⟩] [p2] r78x6 := by
  intro call ρ st K
  kernel_rfl
noncomputable def r78x7 : RF := fun call ρ st K => binK .geq (ρ p0) (u6 256) (fun v => (fun v0 st => K [v0] st) v st)
theorem h78x7 : RegOk [⟨(some (.l (.r p2))), none, (.move (.t p0))⟩, ⟨(some (.r (.r p2))), none, (.bin .geq (.t (.l (.r p2))) (.c (.sc (.int .u64 (.ofNat (nat_lit 256))))))⟩] [(.r (.r p2))] r78x7 := by
  intro call ρ st K
  kernel_rfl
noncomputable def r78x8 : RF := fun call ρ st K => h_op4_shift false (.c (ρ p0)) (.c (u6 8)) call ρ st (fun v0 st => K [v0] st)
theorem h78x8 : RegOk [⟨(some (.l (.l (.l p1)))), none, (.move (.t p0))⟩, ⟨(some (.r (.l (.l p1)))), none, (.more (.more (.more (.shift false (.t (.l (.l (.l p1)))) (.c (.sc (.int .u64 (.ofNat (nat_lit 8)))))))))⟩, ⟨(some p0), none, (.move (.t (.r (.l (.l p1)))))⟩] [p0] r78x8 := by
  intro call ρ st K
  kernel_rfl
noncomputable def r78x9 : RF := fun call ρ st K => binK .add (ρ p2) (i6 8) (fun v => (fun v0 st => K [v0] st) v st)
theorem h78x9 : RegOk [⟨(some (.l (.r (.l p1)))), none, (.move (.t p2))⟩, ⟨(some (.r (.r (.l p1)))), none, (.bin .add (.t (.l (.r (.l p1)))) (.c (.sc (.int .i64 (.ofNat (nat_lit 8))))))⟩, ⟨(some p2), none, (.move (.t (.r (.r (.l p1)))))⟩] [p2] r78x9 := by
  intro call ρ st K
  kernel_rfl
noncomputable def r78x10 : RF := fun call ρ st K => cnv .u8 (ρ p0) (fun v => (fun v0 st => h_op4_byteAt (.c (.sc (.lit (.string ⟨#[0, 1, 2, 2, 3, 3, 3, 3, 4, 4, 4, 4, 4, 4, 4, 4, 5, 5, 5, 5, 5, 5, 5, 5, 5, 5, 5, 5, 5, 5, 5, 5, 6, 6, 6, 6, 6, 6, 6, 6, 6, 6, 6, 6, 6, 6, 6, 6, 6, 6, 6, 6, 6, 6, 6, 6, 6, 6, 6, 6, 6, 6, 6, 6, 7, 7, 7, 7, 7, 7, 7, 7, 7, 7, 7, 7, 7, 7, 7, 7, 7, 7, 7, 7, 7, 7, 7, 7, 7, 7, 7, 7, 7, 7, 7, 7, 7, 7, 7, 7, 7, 7, 7, 7, 7, 7, 7, 7, 7, 7, 7, 7, 7, 7, 7, 7, 7, 7, 7, 7, 7, 7, 7, 7, 7, 7, 7, 7, 8, 8, 8, 8, 8, 8, 8, 8, 8, 8, 8, 8, 8, 8, 8, 8, 8, 8, 8, 8, 8, 8, 8, 8, 8, 8, 8, 8, 8, 8, 8, 8, 8, 8, 8, 8, 8, 8, 8, 8, 8, 8, 8, 8, 8, 8, 8, 8, 8, 8, 8, 8, 8, 8, 8, 8, 8, 8, 8, 8, 8, 8, 8, 8, 8, 8, 8, 8, 8, 8, 8, 8, 8, 8, 8, 8, 8, 8, 8, 8, 8, 8, 8, 8, 8, 8, 8, 8, 8, 8, 8, 8, 8, 8, 8, 8, 8, 8, 8, 8, 8, 8, 8, 8, 8, 8, 8, 8, 8, 8, 8, 8, 8, 8, 8, 8, 8, 8, 8, 8, 8, 8, 8, 8, 8, 8, 8, 8]⟩)))) (.c v0) call ρ st (fun v1 st => cnv .i64 v1 (fun v => (fun v2 st => binK .add (ρ p2) v2 (fun v => (fun v3 st => K [v3] st) v st)) v st))) v st)
theorem h78x10 : RegOk [⟨(some (.l (.l (.r p1)))), none, (.move (.t p2))⟩, ⟨(some (.r (.l (.r p1)))), none, (.move (.t p0))⟩, ⟨(some (.l (.r (.r p1)))), none, (.more (.conv .u8 (.t (.r (.l (.r p1))))))⟩, ⟨(some (.r (.r (.r p1)))), none, (.more (.more (.more (.byteAt (.c (.sc (.lit (.string ⟨#[0, 1, 2, 2, 3, 3, 3, 3, 4, 4, 4, 4, 4, 4, 4, 4, 5, 5, 5, 5, 5, 5, 5, 5, 5, 5, 5, 5, 5, 5, 5, 5, 6, 6, 6, 6, 6, 6, 6, 6, 6, 6, 6, 6, 6, 6, 6, 6, 6, 6, 6, 6, 6, 6, 6, 6, 6, 6, 6, 6, 6, 6, 6, 6, 7, 7, 7, 7, 7, 7, 7, 7, 7, 7, 7, 7, 7, 7, 7, 7, 7, 7, 7, 7, 7, 7, 7, 7, 7, 7, 7, 7, 7, 7, 7, 7, 7, 7, 7, 7, 7, 7, 7, 7, 7, 7, 7, 7, 7, 7, 7, 7, 7, 7, 7, 7, 7, 7, 7, 7, 7, 7, 7, 7, 7, 7, 7, 7, 8, 8, 8, 8, 8, 8, 8, 8, 8, 8, 8, 8, 8, 8, 8, 8, 8, 8, 8, 8, 8, 8, 8, 8, 8, 8, 8, 8, 8, 8, 8, 8, 8, 8, 8, 8, 8, 8, 8, 8, 8, 8, 8, 8, 8, 8, 8, 8, 8, 8, 8, 8, 8, 8, 8, 8, 8, 8, 8, 8, 8, 8, 8, 8, 8, 8, 8, 8, 8, 8, 8, 8, 8, 8, 8, 8, 8, 8, 8, 8, 8, 8, 8, 8, 8, 8, 8, 8, 8, 8, 8, 8, 8, 8, 8, 8, 8, 8, 8, 8, 8, 8, 8, 8, 8, 8, 8, 8, 8, 8, 8, 8, 8, 8, 8, 8, 8, 8, 8, 8, 8, 8, 8, 8, 8, 8, 8, 8]⟩)))) (.t (.l (.r (.r p1))))))))⟩, ⟨(some (.l (.l (.l p2)))), none, (.more (.conv .i64 (.t (.r (.r (.r p1))))))⟩, ⟨(some (.r (.l (.l p2)))), none, (.bin .add (.t (.l (.l (.r p1)))) (.t (.l (.l (.l p2)))))⟩, ⟨(some p2), none, (.move (.t (.r (.l (.l p2)))))⟩] [p2] r78x10 := by
  intro call ρ st K
  kernel_rfl
/- math/bits.Len64 -/
noncomputable def cf78 : HF := ⟨(.seq (.reg _ _ _ h78x0)
 (.seq (.seq (.reg _ _ _ h78x1)
 (.cond (.t (.r p1)) (.seq (.reg _ _ _ h78x2)
 (.reg _ _ _ h78x3))
 .skip))
 (.seq (.seq (.reg _ _ _ h78x4)
 (.cond (.t (.r (.l p1))) (.seq (.reg _ _ _ h78x5)
 (.reg _ _ _ h78x6))
 .skip))
 (.seq (.seq (.reg _ _ _ h78x7)
 (.cond (.t (.r (.r p2))) (.seq (.reg _ _ _ h78x8)
 (.reg _ _ _ h78x9))
 .skip))
 (.seq (.reg _ _ _ h78x10)
 .ret))))), [(.tmp p2)], [p0], [(.l p1), (.l p2), (.r p2), (.l (.l p1)), (.l (.r p1)), (.r (.r p1)), (.l (.l p2)), (.r (.l p2)), (.l (.r p2)), (.l (.l (.l p1))), (.r (.l (.l p1))), (.l (.r (.l p1))), (.r (.r (.l p1))), (.l (.l (.r p1))), (.r (.l (.r p1))), (.l (.r (.r p1))), (.r (.r (.r p1))), (.l (.l (.l p2))), (.r (.l (.l p2)))]⟩
noncomputable def r77x0 : RF := fun call ρ st K => K [(i6 0)] st
theorem h77x0 : RegOk [⟨(some p2), none, (.move (.c (.sc (.int .i64 (.ofNat (nat_lit 0))))))⟩] [p2] r77x0 := by
  intro call ρ st K
  kernel_rfl
noncomputable def r77x1 : RF := fun call ρ st K => binK .geq (ρ p0) (.sc (.int .u32 (.ofNat (nat_lit 65536)))) (fun v => (fun v0 st => K [v0] st) v st)
theorem h77x1 : RegOk [⟨(some (.l p1)), none, (.move (.t p0))⟩, ⟨(some (.r p1)), none, (.bin .geq (.t (.l p1)) (.c (.sc (.int .u32 (.ofNat (nat_lit 65536))))))⟩] [(.r p1)] r77x1 := by
  intro call ρ st K
  kernel_rfl
noncomputable def r77x2 : RF := fun call ρ st K => h_op4_shift false (.c (ρ p0)) (.c (u6 16)) call ρ st (fun v0 st => K [v0] st)
theorem h77x2 : RegOk [⟨(some (.l p2)), none, (.move (.t p0))⟩, ⟨(some (.r p2)), none, (.more (.more (.more (.shift false (.t (.l p2)) (.c (.sc (.int .u64 (.ofNat (nat_lit 16)))))))))⟩, ⟨(some p0), none, (.move (.t (.r p2)))⟩] [p0] r77x2 := by
  intro call ρ st K
  kernel_rfl
noncomputable def r77x3 : RF := fun call ρ st K => K [(i6 16)] st
theorem h77x3 : RegOk [⟨(some p2), none, (.move (.c (.sc (.int .i64 (.ofNat (nat_lit 16))))))⟩] [p2] r77x3 := by
  intro call ρ st K
  kernel_rfl
noncomputable def r77x4 : RF := fun call ρ st K => binK .geq (ρ p0) (.sc (.int .u32 (.ofNat (nat_lit 256)))) (fun v => (fun v0 st => K [v0] st) v st)
theorem h77x4 : RegOk [⟨(some (.l (.l p1))), none, (.move (.t p0))⟩, ⟨(some (.r (.l p1))), none, (.bin .geq (.t (.l (.l p1))) (.c (.sc (.int .u32 (.ofNat (nat_lit 256))))))⟩] [(.r (.l p1))] r77x4 := by
  intro call ρ st K
  kernel_rfl
noncomputable def r77x5 : RF := fun call ρ st K => h_op4_shift false (.c (ρ p0)) (.c (u6 8)) call ρ st (fun v0 st => K [v0] st)
theorem h77x5 : RegOk [⟨(some (.l (.r p1))), none, (.move (.t p0))⟩, ⟨(some (.r (.r p1))), none, (.more (.more (.more (.shift false (.t (.l (.r p1))) (.c (.sc (.int .u64 (.ofNat (nat_lit 8)))))))))⟩, ⟨(some p0), none, (.move (.t (.r (.r p1))))⟩] [p0] r77x5 := by
  intro call ρ st K
  kernel_rfl
noncomputable def r77x6 : RF := fun call ρ st K => binK .add (ρ p2) (i6 8) (fun v => (fun v0 st => K [v0] st) v st)
theorem h77x6 : RegOk [⟨(some (.l (.l p2))), none, (.move (.t p2))⟩, ⟨(some (.r (.l p2))), none, (.bin .add (.t (.l (.l p2))) (.c (.sc (.int .i64 (.ofNat (nat_lit 8))))))⟩, ⟨(some p2), none, (.move (.t (.r (.l p2))))⟩] [p2] r77x6 := by
  intro call ρ st K
  kernel_rfl
noncomputable def r77x7 : RF := fun call ρ st K => cnv .u8 (ρ p0) (fun v => (fun v0 st => h_op4_byteAt (.c (.sc (.lit (.string ⟨#[0, 1, 2, 2, 3, 3, 3, 3, 4, 4, 4, 4, 4, 4, 4, 4, 5, 5, 5, 5, 5, 5, 5, 5, 5, 5, 5, 5, 5, 5, 5, 5, 6, 6, 6, 6, 6, 6, 6, 6, 6, 6, 6, 6, 6, 6, 6, 6, 6, 6, 6, 6, 6, 6, 6, 6, 6, 6, 6, 6, 6, 6, 6, 6, 7, 7, 7, 7, 7, 7, 7, 7, 7, 7, 7, 7, 7, 7, 7, 7, 7, 7, 7, 7, 7, 7, 7, 7, 7, 7, 7, 7, 7, 7, 7, 7, 7, 7, 7, 7, 7, 7, 7, 7, 7, 7, 7, 7, 7, 7, 7, 7, 7, 7, 7, 7, 7, 7, 7, 7, 7, 7, 7, 7, 7, 7, 7, 7, 8, 8, 8, 8, 8, 8, 8, 8, 8, 8, 8, 8, 8, 8, 8, 8, 8, 8, 8, 8, 8, 8, 8, 8, 8, 8, 8, 8, 8, 8, 8, 8, 8, 8, 8, 8, 8, 8, 8, 8, 8, 8, 8, 8, 8, 8, 8, 8, 8, 8, 8, 8, 8, 8, 8, 8, 8, 8, 8, 8, 8, 8, 8, 8, 8, 8, 8, 8, 8, 8, 8, 8, 8, 8, 8, 8, 8, 8, 8, 8, 8, 8, 8, 8, 8, 8, 8, 8, 8, 8, 8, 8, 8, 8, 8, 8, 8, 8, 8, 8, 8, 8, 8, 8, 8, 8, 8, 8, 8, 8, 8, 8, 8, 8, 8, 8, 8, 8, 8, 8, 8, 8, 8, 8, 8, 8, 8, 8]⟩)))) (.c v0) call ρ st (fun v1 st => cnv .i64 v1 (fun v => (fun v2 st => binK .add (ρ p2) v2 (fun v => (fun v3 st => K [v3] st) v st)) v st))) v st)
theorem h77x7 : RegOk [⟨(some (.l (.r p2))), none, (.move (.t p2))⟩, ⟨(some (.r (.r p2))), none, (.move (.t p0))⟩, ⟨(some (.l (.l (.l p1)))), none, (.more (.conv .u8 (.t (.r (.r p2)))))⟩, ⟨(some (.r (.l (.l p1)))), none, (.more (.more (.more (.byteAt (.c (.sc (.lit (.string ⟨#[0, 1, 2, 2, 3, 3, 3, 3, 4, 4, 4, 4, 4, 4, 4, 4, 5, 5, 5, 5, 5, 5, 5, 5, 5, 5, 5, 5, 5, 5, 5, 5, 6, 6, 6, 6, 6, 6, 6, 6, 6, 6, 6, 6, 6, 6, 6, 6, 6, 6, 6, 6, 6, 6, 6, 6, 6, 6, 6, 6, 6, 6, 6, 6, 7, 7, 7, 7, 7, 7, 7, 7, 7, 7, 7, 7, 7, 7, 7, 7, 7, 7, 7, 7, 7, 7, 7, 7, 7, 7, 7, 7, 7, 7, 7, 7, 7, 7, 7, 7, 7, 7, 7, 7, 7, 7, 7, 7, 7, 7, 7, 7, 7, 7, 7, 7, 7, 7, 7, 7, 7, 7, 7, 7, 7, 7, 7, 7, 8, 8, 8, 8, 8, 8, 8, 8, 8, 8, 8, 8, 8, 8, 8, 8, 8, 8, 8, 8, 8, 8, 8, 8, 8, 8, 8, 8, 8, 8, 8, 8, 8, 8, 8, 8, 8, 8, 8, 8, 8, 8, 8, 8, 8, 8, 8, 8, 8, 8, 8, 8, 8, 8, 8, 8, 8, 8, 8, 8, 8, 8, 8, 8, 8, 8, 8, 8, 8, 8, 8, 8, 8, 8, 8, 8, 8, 8, 8, 8, 8, 8, 8, 8, 8, 8, 8, 8, 8, 8, 8, 8, 8, 8, 8, 8, 8, 8, 8, 8, 8, 8, 8, 8, 8, 8, 8, 8, 8, 8, 8, 8, 8, 8, 8, 8, 8, 8, 8, 8, 8, 8, 8, 8, 8, 8, 8, 8]⟩)))) (.t (.l (.l (.l p1))))))))⟩, ⟨(some (.l (.r (.l p1)))), none, (.more (.conv .i64 (.t (.r (.l (.l p1))))))⟩, ⟨(some (.r (.r (.l p1)))), none, (.bin .add (.t (.l (.r p2))) (.t (.l (.r (.l p1)))))⟩, ⟨(some p2), none, (.move (.t (.r (.r (.l p1)))))⟩] [p2] r77x7 := by
  intro call ρ st K
  kernel_rfl
/- math/bits.Len32 -/
noncomputable def cf77 : HF := ⟨(.seq (.reg _ _ _ h77x0)
 (.seq (.seq (.reg _ _ _ h77x1)
 (.cond (.t (.r p1)) (.seq (.reg _ _ _ h77x2)
 (.reg _ _ _ h77x3))
 .skip))
 (.seq (.seq (.reg _ _ _ h77x4)
 (.cond (.t (.r (.l p1))) (.seq (.reg _ _ _ h77x5)
 (.reg _ _ _ h77x6))
 .skip))
 (.seq (.reg _ _ _ h77x7)
 .ret)))), [(.tmp p2)], [p0], [(.l p1), (.l p2), (.r p2), (.l (.l p1)), (.l (.r p1)), (.r (.r p1)), (.l (.l p2)), (.r (.l p2)), (.l (.r p2)), (.r (.r p2)), (.l (.l (.l p1))), (.r (.l (.l p1))), (.l (.r (.l p1))), (.r (.r (.l p1)))]⟩
noncomputable def r33x0 : RF := fun call ρ st K => K [(i6 0)] st
theorem h33x0 : RegOk [⟨(some (.l p2)), none, (.move (.c (.sc (.int .i64 (.ofNat (nat_lit 0))))))⟩] [(.l p2)] r33x0 := by
  intro call ρ st K
  kernel_rfl
noncomputable def r33x1 : RF := fun call ρ st K => (fun n0 mk => dw2 n0 mk (nat_lit 1) (nat_lit 0) (ρ p2) (fun q => ld1 st (ρ p2) (fun v => (q) v st)) (fun v0 mk st => (fun v st => (fun v1 mk st => ixs (nat_lit 50) v0 v1 (fun v => (fun v st => (fun v2 mk st => ixA (nat_lit 50) (nat_lit 1) v2 (i6 32) (fun v => (fun v st => (fun v3 mk st => dw2 n0 mk (nat_lit 16) (nat_lit 15) v3 (fun q => ld1 st v3 (fun v => (q) v st)) (fun v4 mk st => dw2 n0 mk (nat_lit 32) (nat_lit 0) (ρ p2) (fun q => ld1 st (ρ p2) (fun v => (q) v st)) (fun v5 mk st => (fun v st => (fun v6 mk st => ixs (nat_lit 50) v5 v6 (fun v => (fun v st => (fun v7 mk st => ixA (nat_lit 50) (nat_lit 1) v7 (i6 32) (fun v => (fun v st => (fun v8 mk st => dw2 n0 mk (nat_lit 512) (nat_lit 480) v8 (fun q => ld1 st v8 (fun v => (q) v st)) (fun v9 mk st => dw3 mk (nat_lit 1024) (nat_lit 1023) st (fun st q => call (nat_lit 35) [v4, v9] st (q)) (fun v10 mk st => (fun v st => (fun v11 mk st => (fun v st => (fun v12 mk st => dw3 mk (nat_lit 8192) (nat_lit 8191) st (fun st q => call (nat_lit 36) [v11, v12] st (q)) (fun v13 mk st => dw1 mk (nat_lit 16384) (fun q => h_op3_buildS (nat_lit 2) (nat_lit 1) [(.int .i64 (.ofNat (nat_lit 0))), (.int .i64 (.ofNat (nat_lit 0)))] [((nat_lit 0), (nat_lit 1), (.c v10)), ((nat_lit 1), (nat_lit 1), (.c v13))] call ρ st (q)) (fun v14 mk st => dw3 mk (nat_lit 32768) (nat_lit 32767) st (fun st q => call (nat_lit 34) [v14] st (q)) (fun v15 mk st => (fun v st => (fun v16 mk st => K [v16] st) v mk st) v15 st)))) v mk st) (ρ p1) st) v mk st) (ρ p0) st))) v mk st) v st)) v mk st) v st)) v mk st) (ρ p1) st))) v mk st) v st)) v mk st) v st)) v mk st) (ρ p0) st)) st.next mk0
theorem h33x1 : DrwOk [⟨(some (.r p2)), none, (.load1 (.t p2)), (nat_lit 2), (nat_lit 1), (nat_lit 0)⟩, ⟨(some (.l (.l p1))), none, (.move (.t p0)), (nat_lit 0), (nat_lit 2), (nat_lit 0)⟩, ⟨(some (.r (.l p1))), none, (.idxS (nat_lit 50) (.t (.r p2)) (.t (.l (.l p1)))), (nat_lit 0), (nat_lit 4), (nat_lit 3)⟩, ⟨(some (.l (.r p1))), none, (.more (.idxA (nat_lit 50) (nat_lit 1) (.t (.r (.l p1))) (.c (.sc (.int .i64 (.ofNat (nat_lit 32))))))), (nat_lit 0), (nat_lit 8), (nat_lit 7)⟩, ⟨(some (.r (.r p1))), none, (.load1 (.t (.l (.r p1)))), (nat_lit 2), (nat_lit 16), (nat_lit 15)⟩, ⟨(some (.l (.l p2))), none, (.load1 (.t p2)), (nat_lit 2), (nat_lit 32), (nat_lit 0)⟩, ⟨(some (.r (.l p2))), none, (.move (.t p1)), (nat_lit 0), (nat_lit 64), (nat_lit 0)⟩, ⟨(some (.l (.r p2))), none, (.idxS (nat_lit 50) (.t (.l (.l p2))) (.t (.r (.l p2)))), (nat_lit 0), (nat_lit 128), (nat_lit 96)⟩, ⟨(some (.r (.r p2))), none, (.more (.idxA (nat_lit 50) (nat_lit 1) (.t (.l (.r p2))) (.c (.sc (.int .i64 (.ofNat (nat_lit 32))))))), (nat_lit 0), (nat_lit 256), (nat_lit 224)⟩, ⟨(some (.l (.l (.l p1)))), none, (.load1 (.t (.r (.r p2)))), (nat_lit 2), (nat_lit 512), (nat_lit 480)⟩, ⟨(some (.r (.l (.l p1)))), none, (.call (nat_lit 35) [(.t (.r (.r p1))), (.t (.l (.l (.l p1))))]), (nat_lit 3), (nat_lit 1024), (nat_lit 1023)⟩, ⟨(some (.l (.r (.l p1)))), none, (.move (.t p0)), (nat_lit 0), (nat_lit 2048), (nat_lit 0)⟩, ⟨(some (.r (.r (.l p1)))), none, (.move (.t p1)), (nat_lit 0), (nat_lit 4096), (nat_lit 0)⟩, ⟨(some (.l (.l (.r p1)))), none, (.call (nat_lit 36) [(.t (.l (.r (.l p1)))), (.t (.r (.r (.l p1))))]), (nat_lit 3), (nat_lit 8192), (nat_lit 8191)⟩, ⟨(some (.r (.l (.r p1)))), none, (.more (.more (.buildS (nat_lit 2) (nat_lit 1) [(.int .i64 (.ofNat (nat_lit 0))), (.int .i64 (.ofNat (nat_lit 0)))] [((nat_lit 0), (nat_lit 1), (.t (.r (.l (.l p1))))), ((nat_lit 1), (nat_lit 1), (.t (.l (.l (.r p1)))))]))), (nat_lit 1), (nat_lit 16384), (nat_lit 16383)⟩, ⟨(some (.l (.r (.r p1)))), none, (.call (nat_lit 34) [(.t (.r (.l (.r p1))))]), (nat_lit 3), (nat_lit 32768), (nat_lit 32767)⟩, ⟨(some (.l p2)), none, (.move (.t (.l (.r (.r p1))))), (nat_lit 0), (nat_lit 65536), (nat_lit 65535)⟩] [(.l p2)] r33x1 := by
  intro call ρ st K
  kernel_rfl
/- attestor/trace.sorted$1 -/
noncomputable def cf33 : HF := ⟨(.seq (.reg _ _ _ h33x0)
 (.seq (.drw _ _ _ h33x1)
 .ret)), [(.tmp (.l p2))], [p0, p1, p2], [(.r p2), (.l (.l p1)), (.r (.l p1)), (.l (.r p1)), (.r (.r p1)), (.l (.l p2)), (.r (.l p2)), (.l (.r p2)), (.r (.r p2)), (.l (.l (.l p1))), (.r (.l (.l p1))), (.l (.r (.l p1))), (.r (.r (.l p1))), (.l (.l (.r p1))), (.r (.l (.r p1))), (.l (.r (.r p1)))]⟩
noncomputable def r34x0 : RF := fun call ρ st K => K [(i6 0)] st
theorem h34x0 : RegOk [⟨(some p2), none, (.move (.c (.sc (.int .i64 (.ofNat (nat_lit 0))))))⟩] [p2] r34x0 := by
  intro call ρ st K
  kernel_rfl
noncomputable def r34x1 : RF := fun call ρ st K => K [(i6 0)] st
theorem h34x1 : RegOk [⟨(some (.l p1)), none, (.move (.c (.sc (.int .i64 (.ofNat (nat_lit 0))))))⟩] [(.l p1)] r34x1 := by
  intro call ρ st K
  kernel_rfl
noncomputable def r34x2 : RF := fun call ρ st K => lnS (ρ p0) (fun v => (fun v0 st => K [(ρ p0), v0, (i6 0)] st) v st)
theorem h34x2 : RegOk [⟨(some (.r p2)), none, (.move (.t p0))⟩, ⟨(some (.l (.l p1))), none, (.more (.len (.t (.r p2))))⟩, ⟨(some (.r (.l p1))), none, (.move (.c (.sc (.int .i64 (.ofNat (nat_lit 0))))))⟩] [(.r p2), (.l (.l p1)), (.r (.l p1))] r34x2 := by
  intro call ρ st K
  kernel_rfl
noncomputable def r34x3 : RF := fun call ρ st K => binK .lss (ρ (.r (.l p1))) (ρ (.l (.l p1))) (fun v => (fun v0 st => K [v0] st) v st)
theorem h34x3 : RegOk [⟨(some (.l (.r p1))), none, (.bin .lss (.t (.r (.l p1))) (.t (.l (.l p1))))⟩] [(.l (.r p1))] r34x3 := by
  intro call ρ st K
  kernel_rfl
noncomputable def r34x4 : RF := fun call ρ st K => ixs (nat_lit 1) (ρ (.r p2)) (ρ (.r (.l p1))) (fun v => (fun v0 st => ld1 st v0 (fun v => (fun v1 st => K [v1] st) v st)) v st)
theorem h34x4 : RegOk [⟨(some (.r (.r p1))), none, (.idxS (nat_lit 1) (.t (.r p2)) (.t (.r (.l p1))))⟩, ⟨(some (.l (.l p2))), none, (.load1 (.t (.r (.r p1))))⟩, ⟨(some (.l p2)), none, (.move (.t (.l (.l p2))))⟩] [(.l p2)] r34x4 := by
  intro call ρ st K
  kernel_rfl
noncomputable def r34x5 : RF := fun call ρ st K => binK .neq (ρ (.l p2)) (ρ (.l p1)) (fun v => (fun v0 st => K [v0] st) v st)
theorem h34x5 : RegOk [⟨(some (.r (.l p2))), none, (.move (.t (.l p2)))⟩, ⟨(some (.l (.r p2))), none, (.move (.t (.l p1)))⟩, ⟨(some (.r (.r p2))), none, (.bin .neq (.t (.r (.l p2))) (.t (.l (.r p2))))⟩] [(.r (.r p2))] r34x5 := by
  intro call ρ st K
  kernel_rfl
noncomputable def r34x6 : RF := fun call ρ st K => K [(ρ (.l p2))] st
theorem h34x6 : RegOk [⟨(some (.l (.l (.l p1)))), none, (.move (.t (.l p2)))⟩, ⟨(some p2), none, (.move (.t (.l (.l (.l p1)))))⟩] [p2] r34x6 := by
  intro call ρ st K
  kernel_rfl
noncomputable def r34x7 : RF := fun call ρ st K => binK .add (ρ (.r (.l p1))) (i6 1) (fun v => (fun v0 st => K [v0] st) v st)
theorem h34x7 : RegOk [⟨(some (.r (.l (.l p1)))), none, (.bin .add (.t (.r (.l p1))) (.c (.sc (.int .i64 (.ofNat (nat_lit 1))))))⟩, ⟨(some (.r (.l p1))), none, (.move (.t (.r (.l (.l p1)))))⟩] [(.r (.l p1))] r34x7 := by
  intro call ρ st K
  kernel_rfl
noncomputable def r34x8 : RF := fun call ρ st K => K [(ρ (.l p1))] st
theorem h34x8 : RegOk [⟨(some (.l (.r (.l p1)))), none, (.move (.t (.l p1)))⟩, ⟨(some p2), none, (.move (.t (.l (.r (.l p1)))))⟩] [p2] r34x8 := by
  intro call ρ st K
  kernel_rfl
/- cmp.Or[int] -/
noncomputable def cf34 : HF := ⟨(.seq (.reg _ _ _ h34x0)
 (.seq (.reg _ _ _ h34x1)
 (.seq (.seq (.reg _ _ _ h34x2)
 (.block (nat_lit 0) (.loop (.seq (.reg _ _ _ h34x3)
 (.seq (.cond (.t (.l (.r p1))) .skip
 (.exit (nat_lit 0)))
 (.seq (.block (nat_lit 1) (.seq (.reg _ _ _ h34x4)
 (.seq (.reg _ _ _ h34x5)
 (.cond (.t (.r (.r p2))) (.seq (.reg _ _ _ h34x6)
 .ret)
 .skip))))
 (.reg _ _ _ h34x7)))))))
 (.seq (.reg _ _ _ h34x8)
 .ret)))), [(.tmp p2)], [p0], [(.r (.r p1)), (.l (.l p2)), (.r (.l p2)), (.l (.r p2)), (.l (.l (.l p1))), (.r (.l (.l p1))), (.l (.r (.l p1)))]⟩
noncomputable def r36x0 : RF := fun call ρ st K => K [(i6 0)] st
theorem h36x0 : RegOk [⟨(some (.r p1)), none, (.move (.c (.sc (.int .i64 (.ofNat (nat_lit 0))))))⟩] [(.r p1)] r36x0 := by
  intro call ρ st K
  kernel_rfl
noncomputable def r36x1 : RF := fun call ρ st K => call (nat_lit 54) [(ρ p0)] st (fun v0 st => K [v0] st)
theorem h36x1 : RegOk [⟨(some (.l (.l p1))), none, (.move (.t p0))⟩, ⟨(some (.r (.l p1))), none, (.call (nat_lit 54) [(.t (.l (.l p1)))])⟩, ⟨(some (.l p2)), none, (.move (.t (.r (.l p1))))⟩] [(.l p2)] r36x1 := by
  intro call ρ st K
  kernel_rfl
noncomputable def r36x2 : RF := fun call ρ st K => call (nat_lit 54) [(ρ p1)] st (fun v0 st => K [v0] st)
theorem h36x2 : RegOk [⟨(some (.l (.r p1))), none, (.move (.t p1))⟩, ⟨(some (.r (.r p1))), none, (.call (nat_lit 54) [(.t (.l (.r p1)))])⟩, ⟨(some (.r p2)), none, (.move (.t (.r (.r p1))))⟩] [(.r p2)] r36x2 := by
  intro call ρ st K
  kernel_rfl
noncomputable def r36x3 : RF := fun call ρ st K => K [(ρ (.l p2))] st
theorem h36x3 : RegOk [⟨(some (.l (.l p2))), none, (.move (.t (.l p2)))⟩] [(.l (.l p2))] r36x3 := by
  intro call ρ st K
  kernel_rfl
noncomputable def r36x4 : RF := fun call ρ st K => K [(ρ (.r p2))] st
theorem h36x4 : RegOk [⟨(some (.r (.l p2))), none, (.move (.t (.r p2)))⟩] [(.r (.l p2))] r36x4 := by
  intro call ρ st K
  kernel_rfl
noncomputable def r36x5 : RF := fun call ρ st K => K [(i6 0)] st
theorem h36x5 : RegOk [⟨(some (.r p1)), none, (.move (.c (.sc (.int .i64 (.ofNat (nat_lit 0))))))⟩] [(.r p1)] r36x5 := by
  intro call ρ st K
  kernel_rfl
noncomputable def r36x6 : RF := fun call ρ st K => (fun v0 => K [v0] st) (.sc (.int .i64 (.negSucc (nat_lit 0))))
theorem h36x6 : RegOk [⟨(some (.r p1)), none, (.move (.c (.sc (.int .i64 (.negSucc (nat_lit 0))))))⟩] [(.r p1)] r36x6 := by
  intro call ρ st K
  kernel_rfl
noncomputable def r36x7 : RF := fun call ρ st K => K [(ρ (.r p2))] st
theorem h36x7 : RegOk [⟨(some (.l (.r p2))), none, (.move (.t (.r p2)))⟩] [(.l (.r p2))] r36x7 := by
  intro call ρ st K
  kernel_rfl
noncomputable def r36x8 : RF := fun call ρ st K => K [(i6 1)] st
theorem h36x8 : RegOk [⟨(some (.r p1)), none, (.move (.c (.sc (.int .i64 (.ofNat (nat_lit 1))))))⟩] [(.r p1)] r36x8 := by
  intro call ρ st K
  kernel_rfl
noncomputable def r36x9 : RF := fun call ρ st K => binK .lss (ρ p0) (ρ p1) (fun v => (fun v0 st => K [v0] st) v st)
theorem h36x9 : RegOk [⟨(some (.r (.r p2))), none, (.move (.t p0))⟩, ⟨(some (.l (.l (.l p1)))), none, (.move (.t p1))⟩, ⟨(some (.r (.l (.l p1)))), none, (.bin .lss (.t (.r (.r p2))) (.t (.l (.l (.l p1)))))⟩] [(.r (.l (.l p1)))] r36x9 := by
  intro call ρ st K
  kernel_rfl
noncomputable def r36x10 : RF := fun call ρ st K => (fun v0 => K [v0] st) (.sc (.int .i64 (.negSucc (nat_lit 0))))
theorem h36x10 : RegOk [⟨(some (.r p1)), none, (.move (.c (.sc (.int .i64 (.negSucc (nat_lit 0))))))⟩] [(.r p1)] r36x10 := by
  intro call ρ st K
  kernel_rfl
noncomputable def r36x11 : RF := fun call ρ st K => binK .gtr (ρ p0) (ρ p1) (fun v => (fun v0 st => K [v0] st) v st)
theorem h36x11 : RegOk [⟨(some (.l (.r (.l p1)))), none, (.move (.t p0))⟩, ⟨(some (.r (.r (.l p1)))), none, (.move (.t p1))⟩, ⟨(some (.l (.l (.r p1)))), none, (.bin .gtr (.t (.l (.r (.l p1)))) (.t (.r (.r (.l p1)))))⟩] [(.l (.l (.r p1)))] r36x11 := by
  intro call ρ st K
  kernel_rfl
noncomputable def r36x12 : RF := fun call ρ st K => K [(i6 1)] st
theorem h36x12 : RegOk [⟨(some (.r p1)), none, (.move (.c (.sc (.int .i64 (.ofNat (nat_lit 1))))))⟩] [(.r p1)] r36x12 := by
  intro call ρ st K
  kernel_rfl
noncomputable def r36x13 : RF := fun call ρ st K => K [(i6 0)] st
theorem h36x13 : RegOk [⟨(some (.r p1)), none, (.move (.c (.sc (.int .i64 (.ofNat (nat_lit 0))))))⟩] [(.r p1)] r36x13 := by
  intro call ρ st K
  kernel_rfl
/- cmp.Compare[int] -/
noncomputable def cf36 : HF := ⟨(.seq (.reg _ _ _ h36x0)
 (.seq (.reg _ _ _ h36x1)
 (.seq (.reg _ _ _ h36x2)
 (.seq (.seq (.reg _ _ _ h36x3)
 (.cond (.t (.l (.l p2))) (.seq (.seq (.reg _ _ _ h36x4)
 (.cond (.t (.r (.l p2))) (.seq (.reg _ _ _ h36x5)
 .ret)
 .skip))
 (.seq (.reg _ _ _ h36x6)
 .ret))
 .skip))
 (.seq (.seq (.reg _ _ _ h36x7)
 (.cond (.t (.l (.r p2))) (.seq (.reg _ _ _ h36x8)
 .ret)
 .skip))
 (.seq (.seq (.reg _ _ _ h36x9)
 (.cond (.t (.r (.l (.l p1)))) (.seq (.reg _ _ _ h36x10)
 .ret)
 .skip))
 (.seq (.seq (.reg _ _ _ h36x11)
 (.cond (.t (.l (.l (.r p1)))) (.seq (.reg _ _ _ h36x12)
 .ret)
 .skip))
 (.seq (.reg _ _ _ h36x13)
 .ret)))))))), [(.tmp (.r p1))], [p0, p1], [(.l (.l p1)), (.r (.l p1)), (.l (.r p1)), (.r (.r p1)), (.r (.r p2)), (.l (.l (.l p1))), (.l (.r (.l p1))), (.r (.r (.l p1)))]⟩
noncomputable def r54x0 : RF := fun call ρ st K => K [(.sc (.bool false))] st
theorem h54x0 : RegOk [⟨(some p2), none, (.move (.c (.sc (.bool false))))⟩] [p2] r54x0 := by
  intro call ρ st K
  kernel_rfl
noncomputable def r54x1 : RF := fun call ρ st K => binK .neq (ρ p0) (ρ p0) (fun v => (fun v0 st => K [v0] st) v st)
theorem h54x1 : RegOk [⟨(some (.l p1)), none, (.move (.t p0))⟩, ⟨(some (.r p1)), none, (.move (.t p0))⟩, ⟨(some (.l p2)), none, (.bin .neq (.t (.l p1)) (.t (.r p1)))⟩, ⟨(some p2), none, (.move (.t (.l p2)))⟩] [p2] r54x1 := by
  intro call ρ st K
  kernel_rfl
/- cmp.isNaN[int] -/
noncomputable def cf54 : HF := ⟨(.seq (.reg _ _ _ h54x0)
 (.seq (.reg _ _ _ h54x1)
 .ret)), [(.tmp p2)], [p0], [(.l p1), (.r p1), (.l p2)]⟩
noncomputable def r35x0 : RF := fun call ρ st K => K [(i6 0)] st
theorem h35x0 : RegOk [⟨(some (.r p1)), none, (.move (.c (.sc (.int .i64 (.ofNat (nat_lit 0))))))⟩] [(.r p1)] r35x0 := by
  intro call ρ st K
  kernel_rfl
noncomputable def r35x1 : RF := fun call ρ st K => call (nat_lit 53) [(ρ p0)] st (fun v0 st => K [v0] st)
theorem h35x1 : RegOk [⟨(some (.l (.l p1))), none, (.move (.t p0))⟩, ⟨(some (.r (.l p1))), none, (.call (nat_lit 53) [(.t (.l (.l p1)))])⟩, ⟨(some (.l p2)), none, (.move (.t (.r (.l p1))))⟩] [(.l p2)] r35x1 := by
  intro call ρ st K
  kernel_rfl
noncomputable def r35x2 : RF := fun call ρ st K => call (nat_lit 53) [(ρ p1)] st (fun v0 st => K [v0] st)
theorem h35x2 : RegOk [⟨(some (.l (.r p1))), none, (.move (.t p1))⟩, ⟨(some (.r (.r p1))), none, (.call (nat_lit 53) [(.t (.l (.r p1)))])⟩, ⟨(some (.r p2)), none, (.move (.t (.r (.r p1))))⟩] [(.r p2)] r35x2 := by
  intro call ρ st K
  kernel_rfl
noncomputable def r35x3 : RF := fun call ρ st K => K [(ρ (.l p2))] st
theorem h35x3 : RegOk [⟨(some (.l (.l p2))), none, (.move (.t (.l p2)))⟩] [(.l (.l p2))] r35x3 := by
  intro call ρ st K
  kernel_rfl
noncomputable def r35x4 : RF := fun call ρ st K => K [(ρ (.r p2))] st
theorem h35x4 : RegOk [⟨(some (.r (.l p2))), none, (.move (.t (.r p2)))⟩] [(.r (.l p2))] r35x4 := by
  intro call ρ st K
  kernel_rfl
noncomputable def r35x5 : RF := fun call ρ st K => K [(i6 0)] st
theorem h35x5 : RegOk [⟨(some (.r p1)), none, (.move (.c (.sc (.int .i64 (.ofNat (nat_lit 0))))))⟩] [(.r p1)] r35x5 := by
  intro call ρ st K
  kernel_rfl
noncomputable def r35x6 : RF := fun call ρ st K => (fun v0 => K [v0] st) (.sc (.int .i64 (.negSucc (nat_lit 0))))
theorem h35x6 : RegOk [⟨(some (.r p1)), none, (.move (.c (.sc (.int .i64 (.negSucc (nat_lit 0))))))⟩] [(.r p1)] r35x6 := by
  intro call ρ st K
  kernel_rfl
noncomputable def r35x7 : RF := fun call ρ st K => K [(ρ (.r p2))] st
theorem h35x7 : RegOk [⟨(some (.l (.r p2))), none, (.move (.t (.r p2)))⟩] [(.l (.r p2))] r35x7 := by
  intro call ρ st K
  kernel_rfl
noncomputable def r35x8 : RF := fun call ρ st K => K [(i6 1)] st
theorem h35x8 : RegOk [⟨(some (.r p1)), none, (.move (.c (.sc (.int .i64 (.ofNat (nat_lit 1))))))⟩] [(.r p1)] r35x8 := by
  intro call ρ st K
  kernel_rfl
noncomputable def r35x9 : RF := fun call ρ st K => binK .lss (ρ p0) (ρ p1) (fun v => (fun v0 st => K [v0] st) v st)
theorem h35x9 : RegOk [⟨(some (.r (.r p2))), none, (.move (.t p0))⟩, ⟨(some (.l (.l (.l p1)))), none, (.move (.t p1))⟩, ⟨(some (.r (.l (.l p1)))), none, (.bin .lss (.t (.r (.r p2))) (.t (.l (.l (.l p1)))))⟩] [(.r (.l (.l p1)))] r35x9 := by
  intro call ρ st K
  kernel_rfl
noncomputable def r35x10 : RF := fun call ρ st K => (fun v0 => K [v0] st) (.sc (.int .i64 (.negSucc (nat_lit 0))))
theorem h35x10 : RegOk [⟨(some (.r p1)), none, (.move (.c (.sc (.int .i64 (.negSucc (nat_lit 0))))))⟩] [(.r p1)] r35x10 := by
  intro call ρ st K
  kernel_rfl
noncomputable def r35x11 : RF := fun call ρ st K => binK .gtr (ρ p0) (ρ p1) (fun v => (fun v0 st => K [v0] st) v st)
theorem h35x11 : RegOk [⟨(some (.l (.r (.l p1)))), none, (.move (.t p0))⟩, ⟨(some (.r (.r (.l p1)))), none, (.move (.t p1))⟩, ⟨(some (.l (.l (.r p1)))), none, (.bin .gtr (.t (.l (.r (.l p1)))) (.t (.r (.r (.l p1)))))⟩] [(.l (.l (.r p1)))] r35x11 := by
  intro call ρ st K
  kernel_rfl
noncomputable def r35x12 : RF := fun call ρ st K => K [(i6 1)] st
theorem h35x12 : RegOk [⟨(some (.r p1)), none, (.move (.c (.sc (.int .i64 (.ofNat (nat_lit 1))))))⟩] [(.r p1)] r35x12 := by
  intro call ρ st K
  kernel_rfl
noncomputable def r35x13 : RF := fun call ρ st K => K [(i6 0)] st
theorem h35x13 : RegOk [⟨(some (.r p1)), none, (.move (.c (.sc (.int .i64 (.ofNat (nat_lit 0))))))⟩] [(.r p1)] r35x13 := by
  intro call ρ st K
  kernel_rfl
/- cmp.Compare[uint64] -/
noncomputable def cf35 : HF := ⟨(.seq (.reg _ _ _ h35x0)
 (.seq (.reg _ _ _ h35x1)
 (.seq (.reg _ _ _ h35x2)
 (.seq (.seq (.reg _ _ _ h35x3)
 (.cond (.t (.l (.l p2))) (.seq (.seq (.reg _ _ _ h35x4)
 (.cond (.t (.r (.l p2))) (.seq (.reg _ _ _ h35x5)
 .ret)
 .skip))
 (.seq (.reg _ _ _ h35x6)
 .ret))
 .skip))
 (.seq (.seq (.reg _ _ _ h35x7)
 (.cond (.t (.l (.r p2))) (.seq (.reg _ _ _ h35x8)
 .ret)
 .skip))
 (.seq (.seq (.reg _ _ _ h35x9)
 (.cond (.t (.r (.l (.l p1)))) (.seq (.reg _ _ _ h35x10)
 .ret)
 .skip))
 (.seq (.seq (.reg _ _ _ h35x11)
 (.cond (.t (.l (.l (.r p1)))) (.seq (.reg _ _ _ h35x12)
 .ret)
 .skip))
 (.seq (.reg _ _ _ h35x13)
 .ret)))))))), [(.tmp (.r p1))], [p0, p1], [(.l (.l p1)), (.r (.l p1)), (.l (.r p1)), (.r (.r p1)), (.r (.r p2)), (.l (.l (.l p1))), (.l (.r (.l p1))), (.r (.r (.l p1)))]⟩
noncomputable def r53x0 : RF := fun call ρ st K => K [(.sc (.bool false))] st
theorem h53x0 : RegOk [⟨(some p2), none, (.move (.c (.sc (.bool false))))⟩] [p2] r53x0 := by
  intro call ρ st K
  kernel_rfl
noncomputable def r53x1 : RF := fun call ρ st K => binK .neq (ρ p0) (ρ p0) (fun v => (fun v0 st => K [v0] st) v st)
theorem h53x1 : RegOk [⟨(some (.l p1)), none, (.move (.t p0))⟩, ⟨(some (.r p1)), none, (.move (.t p0))⟩, ⟨(some (.l p2)), none, (.bin .neq (.t (.l p1)) (.t (.r p1)))⟩, ⟨(some p2), none, (.move (.t (.l p2)))⟩] [p2] r53x1 := by
  intro call ρ st K
  kernel_rfl
/- cmp.isNaN[uint64] -/
noncomputable def cf53 : HF := ⟨(.seq (.reg _ _ _ h53x0)
 (.seq (.reg _ _ _ h53x1)
 .ret)), [(.tmp p2)], [p0], [(.l p1), (.r p1), (.l p2)]⟩
noncomputable def r14x0 : RF := fun call ρ st K => bxx st (ρ p1) (fun v0 st => alc st [(.int .u64 (.ofNat (nat_lit 0))), (.int .u64 (.ofNat (nat_lit 0))), (.int .u64 (.ofNat (nat_lit 0))), (.int .u64 (.ofNat (nat_lit 0))), (.int .u64 (.ofNat (nat_lit 0))), (.int .u64 (.ofNat (nat_lit 0))), (.int .u64 (.ofNat (nat_lit 0))), (.int .u64 (.ofNat (nat_lit 0))), (.int .u64 (.ofNat (nat_lit 0))), (.int .u64 (.ofNat (nat_lit 0))), (.int .u64 (.ofNat (nat_lit 0))), (.int .u64 (.ofNat (nat_lit 0))), (.int .u64 (.ofNat (nat_lit 0))), (.int .u64 (.ofNat (nat_lit 0))), (.int .u64 (.ofNat (nat_lit 0))), (.int .u64 (.ofNat (nat_lit 0))), (.int .u64 (.ofNat (nat_lit 0))), (.int .u64 (.ofNat (nat_lit 0))), (.int .u64 (.ofNat (nat_lit 0))), (.int .u64 (.ofNat (nat_lit 0))), (.int .u64 (.ofNat (nat_lit 0))), (.int .u64 (.ofNat (nat_lit 0))), (.int .u64 (.ofNat (nat_lit 0))), (.int .u64 (.ofNat (nat_lit 0))), (.int .u64 (.ofNat (nat_lit 0))), (.int .u64 (.ofNat (nat_lit 0))), (.int .u64 (.ofNat (nat_lit 0))), (.int .u64 (.ofNat (nat_lit 0))), (.int .u64 (.ofNat (nat_lit 0))), (.int .u64 (.ofNat (nat_lit 0))), (.int .u64 (.ofNat (nat_lit 0))), (.int .u64 (.ofNat (nat_lit 0))), (.int .u64 (.ofNat (nat_lit 0))), (.int .u64 (.ofNat (nat_lit 0))), (.int .u64 (.ofNat (nat_lit 0))), (.int .u64 (.ofNat (nat_lit 0))), (.int .u64 (.ofNat (nat_lit 0))), (.int .u64 (.ofNat (nat_lit 0))), (.int .u64 (.ofNat (nat_lit 0))), (.int .u64 (.ofNat (nat_lit 0))), (.int .u64 (.ofNat (nat_lit 0))), (.int .u64 (.ofNat (nat_lit 0))), (.int .u64 (.ofNat (nat_lit 0))), (.int .u64 (.ofNat (nat_lit 0))), (.int .u64 (.ofNat (nat_lit 0))), (.int .u64 (.ofNat (nat_lit 0))), (.int .u64 (.ofNat (nat_lit 0))), (.int .u64 (.ofNat (nat_lit 0))), (.int .u64 (.ofNat (nat_lit 0))), (.int .u64 (.ofNat (nat_lit 0)))] (fun v1 st => K [v0, v1] st))
theorem h14x0 : RegOk [⟨(some (.l p1)), none, (.more (.box (.t p1)))⟩, ⟨(some (.r p1)), none, (.more (.alloc [(.int .u64 (.ofNat (nat_lit 0))), (.int .u64 (.ofNat (nat_lit 0))), (.int .u64 (.ofNat (nat_lit 0))), (.int .u64 (.ofNat (nat_lit 0))), (.int .u64 (.ofNat (nat_lit 0))), (.int .u64 (.ofNat (nat_lit 0))), (.int .u64 (.ofNat (nat_lit 0))), (.int .u64 (.ofNat (nat_lit 0))), (.int .u64 (.ofNat (nat_lit 0))), (.int .u64 (.ofNat (nat_lit 0))), (.int .u64 (.ofNat (nat_lit 0))), (.int .u64 (.ofNat (nat_lit 0))), (.int .u64 (.ofNat (nat_lit 0))), (.int .u64 (.ofNat (nat_lit 0))), (.int .u64 (.ofNat (nat_lit 0))), (.int .u64 (.ofNat (nat_lit 0))), (.int .u64 (.ofNat (nat_lit 0))), (.int .u64 (.ofNat (nat_lit 0))), (.int .u64 (.ofNat (nat_lit 0))), (.int .u64 (.ofNat (nat_lit 0))), (.int .u64 (.ofNat (nat_lit 0))), (.int .u64 (.ofNat (nat_lit 0))), (.int .u64 (.ofNat (nat_lit 0))), (.int .u64 (.ofNat (nat_lit 0))), (.int .u64 (.ofNat (nat_lit 0))), (.int .u64 (.ofNat (nat_lit 0))), (.int .u64 (.ofNat (nat_lit 0))), (.int .u64 (.ofNat (nat_lit 0))), (.int .u64 (.ofNat (nat_lit 0))), (.int .u64 (.ofNat (nat_lit 0))), (.int .u64 (.ofNat (nat_lit 0))), (.int .u64 (.ofNat (nat_lit 0))), (.int .u64 (.ofNat (nat_lit 0))), (.int .u64 (.ofNat (nat_lit 0))), (.int .u64 (.ofNat (nat_lit 0))), (.int .u64 (.ofNat (nat_lit 0))), (.int .u64 (.ofNat (nat_lit 0))), (.int .u64 (.ofNat (nat_lit 0))), (.int .u64 (.ofNat (nat_lit 0))), (.int .u64 (.ofNat (nat_lit 0))), (.int .u64 (.ofNat (nat_lit 0))), (.int .u64 (.ofNat (nat_lit 0))), (.int .u64 (.ofNat (nat_lit 0))), (.int .u64 (.ofNat (nat_lit 0))), (.int .u64 (.ofNat (nat_lit 0))), (.int .u64 (.ofNat (nat_lit 0))), (.int .u64 (.ofNat (nat_lit 0))), (.int .u64 (.ofNat (nat_lit 0))), (.int .u64 (.ofNat (nat_lit 0))), (.int .u64 (.ofNat (nat_lit 0)))]))⟩] [(.l p1), (.r p1)] r14x0 := by
  intro call ρ st K
  kernel_rfl
noncomputable def r14x1 : RF := fun call ρ st K => alc st [(.int .u64 (.ofNat (nat_lit 0))), (.int .u64 (.ofNat (nat_lit 0))), (.int .u64 (.ofNat (nat_lit 0))), (.int .u64 (.ofNat (nat_lit 0))), (.int .u64 (.ofNat (nat_lit 0))), (.int .u64 (.ofNat (nat_lit 0))), (.int .u64 (.ofNat (nat_lit 0))), (.int .u64 (.ofNat (nat_lit 0))), (.int .u64 (.ofNat (nat_lit 0))), (.int .u64 (.ofNat (nat_lit 0))), (.int .u64 (.ofNat (nat_lit 0))), (.int .u64 (.ofNat (nat_lit 0))), (.int .u64 (.ofNat (nat_lit 0))), (.int .u64 (.ofNat (nat_lit 0))), (.int .u64 (.ofNat (nat_lit 0))), (.int .u64 (.ofNat (nat_lit 0))), (.int .u64 (.ofNat (nat_lit 0))), (.int .u64 (.ofNat (nat_lit 0))), (.int .u64 (.ofNat (nat_lit 0))), (.int .u64 (.ofNat (nat_lit 0))), (.int .u64 (.ofNat (nat_lit 0))), (.int .u64 (.ofNat (nat_lit 0))), (.int .u64 (.ofNat (nat_lit 0))), (.int .u64 (.ofNat (nat_lit 0))), (.int .u64 (.ofNat (nat_lit 0))), (.int .u64 (.ofNat (nat_lit 0))), (.int .u64 (.ofNat (nat_lit 0))), (.int .u64 (.ofNat (nat_lit 0))), (.int .u64 (.ofNat (nat_lit 0))), (.int .u64 (.ofNat (nat_lit 0))), (.int .u64 (.ofNat (nat_lit 0))), (.int .u64 (.ofNat (nat_lit 0))), (.int .u64 (.ofNat (nat_lit 0))), (.int .u64 (.ofNat (nat_lit 0))), (.int .u64 (.ofNat (nat_lit 0))), (.int .u64 (.ofNat (nat_lit 0))), (.int .u64 (.ofNat (nat_lit 0))), (.int .u64 (.ofNat (nat_lit 0))), (.int .u64 (.ofNat (nat_lit 0))), (.int .u64 (.ofNat (nat_lit 0))), (.int .u64 (.ofNat (nat_lit 0))), (.int .u64 (.ofNat (nat_lit 0))), (.int .u64 (.ofNat (nat_lit 0))), (.int .u64 (.ofNat (nat_lit 0))), (.int .u64 (.ofNat (nat_lit 0))), (.int .u64 (.ofNat (nat_lit 0))), (.int .u64 (.ofNat (nat_lit 0))), (.int .u64 (.ofNat (nat_lit 0))), (.int .u64 (.ofNat (nat_lit 0))), (.int .u64 (.ofNat (nat_lit 0)))] (fun v0 st => K [v0] st)
theorem h14x1 : RegOk [⟨(some (.l p2)), none, (.more (.alloc [(.int .u64 (.ofNat (nat_lit 0))), (.int .u64 (.ofNat (nat_lit 0))), (.int .u64 (.ofNat (nat_lit 0))), (.int .u64 (.ofNat (nat_lit 0))), (.int .u64 (.ofNat (nat_lit 0))), (.int .u64 (.ofNat (nat_lit 0))), (.int .u64 (.ofNat (nat_lit 0))), (.int .u64 (.ofNat (nat_lit 0))), (.int .u64 (.ofNat (nat_lit 0))), (.int .u64 (.ofNat (nat_lit 0))), (.int .u64 (.ofNat (nat_lit 0))), (.int .u64 (.ofNat (nat_lit 0))), (.int .u64 (.ofNat (nat_lit 0))), (.int .u64 (.ofNat (nat_lit 0))), (.int .u64 (.ofNat (nat_lit 0))), (.int .u64 (.ofNat (nat_lit 0))), (.int .u64 (.ofNat (nat_lit 0))), (.int .u64 (.ofNat (nat_lit 0))), (.int .u64 (.ofNat (nat_lit 0))), (.int .u64 (.ofNat (nat_lit 0))), (.int .u64 (.ofNat (nat_lit 0))), (.int .u64 (.ofNat (nat_lit 0))), (.int .u64 (.ofNat (nat_lit 0))), (.int .u64 (.ofNat (nat_lit 0))), (.int .u64 (.ofNat (nat_lit 0))), (.int .u64 (.ofNat (nat_lit 0))), (.int .u64 (.ofNat (nat_lit 0))), (.int .u64 (.ofNat (nat_lit 0))), (.int .u64 (.ofNat (nat_lit 0))), (.int .u64 (.ofNat (nat_lit 0))), (.int .u64 (.ofNat (nat_lit 0))), (.int .u64 (.ofNat (nat_lit 0))), (.int .u64 (.ofNat (nat_lit 0))), (.int .u64 (.ofNat (nat_lit 0))), (.int .u64 (.ofNat (nat_lit 0))), (.int .u64 (.ofNat (nat_lit 0))), (.int .u64 (.ofNat (nat_lit 0))), (.int .u64 (.ofNat (nat_lit 0))), (.int .u64 (.ofNat (nat_lit 0))), (.int .u64 (.ofNat (nat_lit 0))), (.int .u64 (.ofNat (nat_lit 0))), (.int .u64 (.ofNat (nat_lit 0))), (.int .u64 (.ofNat (nat_lit 0))), (.int .u64 (.ofNat (nat_lit 0))), (.int .u64 (.ofNat (nat_lit 0))), (.int .u64 (.ofNat (nat_lit 0))), (.int .u64 (.ofNat (nat_lit 0))), (.int .u64 (.ofNat (nat_lit 0))), (.int .u64 (.ofNat (nat_lit 0))), (.int .u64 (.ofNat (nat_lit 0)))]))⟩] [(.l p2)] r14x1 := by
  intro call ρ st K
  kernel_rfl
noncomputable def r14x2 : RF := fun call ρ st K => fad (nat_lit 0) (ρ (.l p1)) (fun v => (fun v0 st => ld1 st v0 (fun v => (fun v1 st => call (nat_lit 18) [(ρ p0), v1] st (fun v2 st => alc st [(.int .u8 (.ofNat (nat_lit 0))), (.int .u8 (.ofNat (nat_lit 0))), (.int .u8 (.ofNat (nat_lit 0))), (.int .u8 (.ofNat (nat_lit 0)))] (fun v3 st => sto st (nat_lit 4) v3 v2 ((fun _ st => K [v3] st) undefV)))) v st)) v st)
theorem h14x2 : RegOk [⟨(some (.r (.r p2))), none, (.move (.t p0))⟩, ⟨(some (.l (.l (.l p1)))), none, (.fa (nat_lit 0) (.t (.l p1)))⟩, ⟨(some (.r (.l (.l p1)))), none, (.load1 (.t (.l (.l (.l p1)))))⟩, ⟨(some (.l (.r (.l p1)))), none, (.call (nat_lit 18) [(.t (.r (.r p2))), (.t (.r (.l (.l p1))))])⟩, ⟨(some (.r p2)), none, (.more (.alloc [(.int .u8 (.ofNat (nat_lit 0))), (.int .u8 (.ofNat (nat_lit 0))), (.int .u8 (.ofNat (nat_lit 0))), (.int .u8 (.ofNat (nat_lit 0)))]))⟩, ⟨none, none, (.more (.store (nat_lit 4) (.t (.r p2)) (.t (.l (.r (.l p1))))))⟩] [(.r p2)] r14x2 := by
  intro call ρ st K
  kernel_rfl
noncomputable def r14x3 : RF := fun call ρ st K => ldN st (nat_lit 21) (ρ (.l p1)) (fun v => (fun v0 st => call (nat_lit 29) [(ρ p0), v0] st (fun v1 st => h_op4_extract (nat_lit 0) (.c v1) call ρ st (fun v2 st => h_op4_extract (nat_lit 1) (.c v1) call ρ st (fun v3 st => alc st [(.int .i64 (.ofNat (nat_lit 0))), (.int .u8 (.ofNat (nat_lit 0))), (.int .u8 (.ofNat (nat_lit 0))), (.int .u8 (.ofNat (nat_lit 0))), (.int .u8 (.ofNat (nat_lit 0))), (.int .u8 (.ofNat (nat_lit 0))), (.int .u8 (.ofNat (nat_lit 0))), (.int .u8 (.ofNat (nat_lit 0))), (.int .u8 (.ofNat (nat_lit 0))), (.int .u8 (.ofNat (nat_lit 0))), (.int .u8 (.ofNat (nat_lit 0))), (.int .u8 (.ofNat (nat_lit 0))), (.int .u8 (.ofNat (nat_lit 0))), (.int .u8 (.ofNat (nat_lit 0))), (.int .u8 (.ofNat (nat_lit 0))), (.int .u8 (.ofNat (nat_lit 0))), (.int .u8 (.ofNat (nat_lit 0))), (.int .u8 (.ofNat (nat_lit 0))), (.int .u8 (.ofNat (nat_lit 0))), (.int .u8 (.ofNat (nat_lit 0))), (.int .u8 (.ofNat (nat_lit 0)))] (fun v4 st => sto st (nat_lit 21) v4 v2 ((fun _ st => K [v4] st) undefV)))))) v st)
theorem h14x3 : RegOk [⟨(some (.l (.l (.r p1)))), none, (.move (.t p0))⟩, ⟨(some (.r (.l (.r p1)))), none, (.loadN (nat_lit 21) (.t (.l p1)))⟩, ⟨(some (.l (.r (.r p1)))), none, (.call (nat_lit 29) [(.t (.l (.l (.r p1)))), (.t (.r (.l (.r p1))))])⟩, ⟨(some (.r (.r (.l p1)))), none, (.move (.t (.l (.r (.r p1)))))⟩, ⟨(some (.r (.r (.r p1)))), none, (.more (.more (.more (.extract (nat_lit 0) (.t (.r (.r (.l p1))))))))⟩, ⟨(some (.l (.l (.l p2)))), none, (.more (.more (.more (.extract (nat_lit 1) (.t (.r (.r (.l p1))))))))⟩, ⟨(some (.l (.l p1))), none, (.more (.alloc [(.int .i64 (.ofNat (nat_lit 0))), (.int .u8 (.ofNat (nat_lit 0))), (.int .u8 (.ofNat (nat_lit 0))), (.int .u8 (.ofNat (nat_lit 0))), (.int .u8 (.ofNat (nat_lit 0))), (.int .u8 (.ofNat (nat_lit 0))), (.int .u8 (.ofNat (nat_lit 0))), (.int .u8 (.ofNat (nat_lit 0))), (.int .u8 (.ofNat (nat_lit 0))), (.int .u8 (.ofNat (nat_lit 0))), (.int .u8 (.ofNat (nat_lit 0))), (.int .u8 (.ofNat (nat_lit 0))), (.int .u8 (.ofNat (nat_lit 0))), (.int .u8 (.ofNat (nat_lit 0))), (.int .u8 (.ofNat (nat_lit 0))), (.int .u8 (.ofNat (nat_lit 0))), (.int .u8 (.ofNat (nat_lit 0))), (.int .u8 (.ofNat (nat_lit 0))), (.int .u8 (.ofNat (nat_lit 0))), (.int .u8 (.ofNat (nat_lit 0))), (.int .u8 (.ofNat (nat_lit 0)))]))⟩, ⟨none, none, (.more (.store (nat_lit 21) (.t (.l (.l p1))) (.t (.r (.r (.r p1))))))⟩, ⟨(some (.r (.l p1))), none, (.move (.t (.l (.l (.l p2)))))⟩] [(.l (.l p1))] r14x3 := by
  intro call ρ st K
  kernel_rfl
noncomputable def r14x4 : RF := fun call ρ st K => (fun n0 mk => fad (nat_lit 1) (ρ (.r p2)) (fun v => (fun v st => (fun v0 mk st => dw2 n0 mk (nat_lit 2) (nat_lit 1) v0 (fun q => ld1 st v0 (fun v => (q) v st)) (fun v1 mk st => fad (nat_lit 1) (ρ (.l p1)) (fun v => (fun v st => (fun v2 mk st => ixA (nat_lit 4) (nat_lit 1) v2 v1 (fun v => (fun v st => (fun v3 mk st => dw2 n0 mk (nat_lit 16) (nat_lit 15) v3 (fun q => ld1 st v3 (fun v => (q) v st)) (fun v4 mk st => cnv .u64 v4 (fun v => (fun v st => (fun v5 mk st => fad (nat_lit 2) (ρ (.r p2)) (fun v => (fun v st => (fun v6 mk st => dw2 n0 mk (nat_lit 128) (nat_lit 64) v6 (fun q => ld1 st v6 (fun v => (q) v st)) (fun v7 mk st => fad (nat_lit 1) (ρ (.l p1)) (fun v => (fun v st => (fun v8 mk st => ixA (nat_lit 4) (nat_lit 1) v8 v7 (fun v => (fun v st => (fun v9 mk st => dw2 n0 mk (nat_lit 1024) (nat_lit 960) v9 (fun q => ld1 st v9 (fun v => (q) v st)) (fun v10 mk st => cnv .u64 v10 (fun v => (fun v st => (fun v11 mk st => (fun v st => (fun v12 mk st => (fun v st => (fun v13 mk st => K [v12, v13] st) v mk st) v11 st) v mk st) v5 st) v mk st) v st))) v mk st) v st)) v mk st) v st))) v mk st) v st)) v mk st) v st))) v mk st) v st)) v mk st) v st))) v mk st) v st)) st.next mk0
theorem h14x4 : DrwOk [⟨(some (.r (.l (.l p2)))), none, (.fa (nat_lit 1) (.t (.r p2))), (nat_lit 0), (nat_lit 1), (nat_lit 0)⟩, ⟨(some (.l (.r (.l p2)))), none, (.load1 (.t (.r (.l (.l p2))))), (nat_lit 2), (nat_lit 2), (nat_lit 1)⟩, ⟨(some (.r (.r (.l p2)))), none, (.fa (nat_lit 1) (.t (.l p1))), (nat_lit 0), (nat_lit 4), (nat_lit 0)⟩, ⟨(some (.l (.l (.r p2)))), none, (.more (.idxA (nat_lit 4) (nat_lit 1) (.t (.r (.r (.l p2)))) (.t (.l (.r (.l p2)))))), (nat_lit 0), (nat_lit 8), (nat_lit 7)⟩, ⟨(some (.r (.l (.r p2)))), none, (.load1 (.t (.l (.l (.r p2))))), (nat_lit 2), (nat_lit 16), (nat_lit 15)⟩, ⟨(some (.l (.r (.r p2)))), none, (.more (.conv .u64 (.t (.r (.l (.r p2)))))), (nat_lit 0), (nat_lit 32), (nat_lit 31)⟩, ⟨(some (.r (.r (.r p2)))), none, (.fa (nat_lit 2) (.t (.r p2))), (nat_lit 0), (nat_lit 64), (nat_lit 0)⟩, ⟨(some (.l (.l (.l (.l p1))))), none, (.load1 (.t (.r (.r (.r p2))))), (nat_lit 2), (nat_lit 128), (nat_lit 64)⟩, ⟨(some (.r (.l (.l (.l p1))))), none, (.fa (nat_lit 1) (.t (.l p1))), (nat_lit 0), (nat_lit 256), (nat_lit 0)⟩, ⟨(some (.l (.r (.l (.l p1))))), none, (.more (.idxA (nat_lit 4) (nat_lit 1) (.t (.r (.l (.l (.l p1))))) (.t (.l (.l (.l (.l p1))))))), (nat_lit 0), (nat_lit 512), (nat_lit 448)⟩, ⟨(some (.r (.r (.l (.l p1))))), none, (.load1 (.t (.l (.r (.l (.l p1)))))), (nat_lit 2), (nat_lit 1024), (nat_lit 960)⟩, ⟨(some (.l (.l (.r (.l p1))))), none, (.more (.conv .u64 (.t (.r (.r (.l (.l p1))))))), (nat_lit 0), (nat_lit 2048), (nat_lit 1984)⟩, ⟨(some (.l (.r p1))), none, (.move (.t (.l (.r (.r p2))))), (nat_lit 0), (nat_lit 4096), (nat_lit 63)⟩, ⟨(some (.r (.r p1))), none, (.move (.t (.l (.l (.r (.l p1)))))), (nat_lit 0), (nat_lit 8192), (nat_lit 8191)⟩] [(.l (.r p1)), (.r (.r p1))] r14x4 := by
  intro call ρ st K
  kernel_rfl
noncomputable def r14x5 : RF := fun call ρ st K => (fun n0 mk => fad (nat_lit 0) (ρ (.l p1)) (fun v => (fun v st => (fun v0 mk st => dw2 n0 mk (nat_lit 2) (nat_lit 1) v0 (fun q => ld1 st v0 (fun v => (q) v st)) (fun v1 mk st => cnv .u64 v1 (fun v => (fun v st => (fun v2 mk st => dw2 n0 mk (nat_lit 8) (nat_lit 0) (ρ (.r p2)) (fun q => ldN st (nat_lit 4) (ρ (.r p2)) (fun v => (q) v st)) (fun v3 mk st => dw3 mk (nat_lit 16) (nat_lit 8) st (fun st q => call (nat_lit 19) [v3] st (q)) (fun v4 mk st => fad (nat_lit 3) (ρ (.r p2)) (fun v => (fun v st => (fun v5 mk st => dw2 n0 mk (nat_lit 64) (nat_lit 32) v5 (fun q => ld1 st v5 (fun v => (q) v st)) (fun v6 mk st => cnv .u64 v6 (fun v => (fun v st => (fun v7 mk st => (fun v st => (fun v8 mk st => (fun v st => (fun v9 mk st => ixA (nat_lit 50) (nat_lit 1) (ρ (.l p2)) (i6 0) (fun v => (fun v st => (fun v10 mk st => dw4 n0 mk (nat_lit 2048) (nat_lit 1055) v10 (fun q => sto st (nat_lit 1) v10 v2 ((q) undefV)) (fun _ mk st => ixA (nat_lit 50) (nat_lit 1) (ρ (.l p2)) (i6 21) (fun v => (fun v st => (fun v12 mk st => dw4 n0 mk (nat_lit 8192) (nat_lit 7199) v12 (fun q => sto st (nat_lit 1) v12 v4 ((q) undefV)) (fun _ mk st => ixA (nat_lit 50) (nat_lit 1) (ρ (.l p2)) (i6 22) (fun v => (fun v st => (fun v14 mk st => dw4 n0 mk (nat_lit 32768) (nat_lit 31999) v14 (fun q => sto st (nat_lit 1) v14 v7 ((q) undefV)) (fun _ mk st => ixA (nat_lit 50) (nat_lit 1) (ρ (.l p2)) (i6 23) (fun v => (fun v st => (fun v16 mk st => dw4 n0 mk (nat_lit 131072) (nat_lit 130559) v16 (fun q => sto st (nat_lit 1) v16 v8 ((q) undefV)) (fun _ mk st => ixA (nat_lit 50) (nat_lit 1) (ρ (.l p2)) (i6 24) (fun v => (fun v st => (fun v18 mk st => dw4 n0 mk (nat_lit 524288) (nat_lit 524287) v18 (fun q => sto st (nat_lit 1) v18 v9 ((q) undefV)) (fun _ mk st => K [] st)) v mk st) v st))) v mk st) v st))) v mk st) v st))) v mk st) v st))) v mk st) v st)) v mk st) (ρ (.r (.r p1))) st) v mk st) (ρ (.l (.r p1))) st) v mk st) v st))) v mk st) v st)))) v mk st) v st))) v mk st) v st)) st.next mk0
theorem h14x5 : DrwOk [⟨(some (.r (.l (.r (.l p1))))), none, (.fa (nat_lit 0) (.t (.l p1))), (nat_lit 0), (nat_lit 1), (nat_lit 0)⟩, ⟨(some (.l (.r (.r (.l p1))))), none, (.load1 (.t (.r (.l (.r (.l p1)))))), (nat_lit 2), (nat_lit 2), (nat_lit 1)⟩, ⟨(some (.r (.r (.r (.l p1))))), none, (.more (.conv .u64 (.t (.l (.r (.r (.l p1))))))), (nat_lit 0), (nat_lit 4), (nat_lit 3)⟩, ⟨(some (.l (.l (.l (.r p1))))), none, (.loadN (nat_lit 4) (.t (.r p2))), (nat_lit 2), (nat_lit 8), (nat_lit 0)⟩, ⟨(some (.r (.l (.l (.r p1))))), none, (.call (nat_lit 19) [(.t (.l (.l (.l (.r p1)))))]), (nat_lit 3), (nat_lit 16), (nat_lit 8)⟩, ⟨(some (.l (.r (.l (.r p1))))), none, (.fa (nat_lit 3) (.t (.r p2))), (nat_lit 0), (nat_lit 32), (nat_lit 0)⟩, ⟨(some (.r (.r (.l (.r p1))))), none, (.load1 (.t (.l (.r (.l (.r p1)))))), (nat_lit 2), (nat_lit 64), (nat_lit 32)⟩, ⟨(some (.l (.l (.r (.r p1))))), none, (.more (.conv .u64 (.t (.r (.r (.l (.r p1))))))), (nat_lit 0), (nat_lit 128), (nat_lit 96)⟩, ⟨(some (.r (.l (.r (.r p1))))), none, (.move (.t (.l (.r p1)))), (nat_lit 0), (nat_lit 256), (nat_lit 0)⟩, ⟨(some (.l (.r (.r (.r p1))))), none, (.move (.t (.r (.r p1)))), (nat_lit 0), (nat_lit 512), (nat_lit 0)⟩, ⟨(some (.r (.r (.r (.r p1))))), none, (.more (.idxA (nat_lit 50) (nat_lit 1) (.t (.l p2)) (.c (.sc (.int .i64 (.ofNat (nat_lit 0))))))), (nat_lit 0), (nat_lit 1024), (nat_lit 31)⟩, ⟨none, none, (.more (.store (nat_lit 1) (.t (.r (.r (.r (.r p1))))) (.t (.r (.r (.r (.l p1))))))), (nat_lit 4), (nat_lit 2048), (nat_lit 1055)⟩, ⟨(some (.l (.l (.l (.l p2))))), none, (.more (.idxA (nat_lit 50) (nat_lit 1) (.t (.l p2)) (.c (.sc (.int .i64 (.ofNat (nat_lit 21))))))), (nat_lit 0), (nat_lit 4096), (nat_lit 3103)⟩, ⟨none, none, (.more (.store (nat_lit 1) (.t (.l (.l (.l (.l p2))))) (.t (.r (.l (.l (.r p1))))))), (nat_lit 4), (nat_lit 8192), (nat_lit 7199)⟩, ⟨(some (.r (.l (.l (.l p2))))), none, (.more (.idxA (nat_lit 50) (nat_lit 1) (.t (.l p2)) (.c (.sc (.int .i64 (.ofNat (nat_lit 22))))))), (nat_lit 0), (nat_lit 16384), (nat_lit 15615)⟩, ⟨none, none, (.more (.store (nat_lit 1) (.t (.r (.l (.l (.l p2))))) (.t (.l (.l (.r (.r p1))))))), (nat_lit 4), (nat_lit 32768), (nat_lit 31999)⟩, ⟨(some (.l (.r (.l (.l p2))))), none, (.more (.idxA (nat_lit 50) (nat_lit 1) (.t (.l p2)) (.c (.sc (.int .i64 (.ofNat (nat_lit 23))))))), (nat_lit 0), (nat_lit 65536), (nat_lit 65023)⟩, ⟨none, none, (.more (.store (nat_lit 1) (.t (.l (.r (.l (.l p2))))) (.t (.r (.l (.r (.r p1))))))), (nat_lit 4), (nat_lit 131072), (nat_lit 130559)⟩, ⟨(some (.r (.r (.l (.l p2))))), none, (.more (.idxA (nat_lit 50) (nat_lit 1) (.t (.l p2)) (.c (.sc (.int .i64 (.ofNat (nat_lit 24))))))), (nat_lit 0), (nat_lit 262144), (nat_lit 262143)⟩, ⟨none, none, (.more (.store (nat_lit 1) (.t (.r (.r (.l (.l p2))))) (.t (.l (.r (.r (.r p1))))))), (nat_lit 4), (nat_lit 524288), (nat_lit 524287)⟩] [] r14x5 := by
  intro call ρ st K
  kernel_rfl
noncomputable def r14x6 : RF := fun call ρ st K => fad (nat_lit 1) (ρ (.l p1)) (fun v => (fun v0 st => ldN st (nat_lit 4) v0 (fun v => (fun v1 st => K [v1, (i6 0)] st) v st)) v st)
theorem h14x6 : RegOk [⟨(some (.l (.l (.r (.l p2))))), none, (.fa (nat_lit 1) (.t (.l p1)))⟩, ⟨(some (.r (.l (.r (.l p2))))), none, (.loadN (nat_lit 4) (.t (.l (.l (.r (.l p2))))))⟩, ⟨(some (.l (.r (.r (.l p2))))), none, (.move (.c (.sc (.int .i64 (.ofNat (nat_lit 0))))))⟩] [(.r (.l (.r (.l p2)))), (.l (.r (.r (.l p2))))] r14x6 := by
  intro call ρ st K
  kernel_rfl
noncomputable def r14x7 : RF := fun call ρ st K => binK .lss (ρ (.l (.r (.r (.l p2))))) (i6 4) (fun v => (fun v0 st => K [v0] st) v st)
theorem h14x7 : RegOk [⟨(some (.r (.r (.r (.l p2))))), none, (.bin .lss (.t (.l (.r (.r (.l p2))))) (.c (.sc (.int .i64 (.ofNat (nat_lit 4))))))⟩] [(.r (.r (.r (.l p2))))] r14x7 := by
  intro call ρ st K
  kernel_rfl
noncomputable def r14x8 : RF := fun call ρ st K => (fun v0 => h_op2_idxV (nat_lit 4) (nat_lit 1) false (.c (ρ (.r (.l (.r (.l p2)))))) (.c (ρ (.l (.r (.r (.l p2)))))) call ρ st (fun v1 st => K [v0, v1] st)) (ρ (.l (.r (.r (.l p2)))))
theorem h14x8 : RegOk [⟨(some (.l (.l (.l (.r p2))))), none, (.move (.t (.l (.r (.r (.l p2))))))⟩, ⟨(some (.r (.l (.l (.r p2))))), none, (.more (.idxV (nat_lit 4) (nat_lit 1) false (.t (.r (.l (.r (.l p2))))) (.t (.l (.r (.r (.l p2)))))))⟩, ⟨(some (.l (.l p2))), none, (.move (.t (.l (.l (.l (.r p2))))))⟩, ⟨(some (.r (.l p2))), none, (.move (.t (.r (.l (.l (.r p2))))))⟩] [(.l (.l p2)), (.r (.l p2))] r14x8 := by
  intro call ρ st K
  kernel_rfl
noncomputable def r14x9 : RF := fun call ρ st K => binK .add (i6 1) (ρ (.l (.l p2))) (fun v => (fun v0 st => cnv .u64 (ρ (.r (.l p2))) (fun v => (fun v1 st => ixA (nat_lit 50) (nat_lit 1) (ρ (.l p2)) v0 (fun v => (fun v2 st => sto st (nat_lit 1) v2 v1 ((fun _ st => K [] st) undefV)) v st)) v st)) v st)
theorem h14x9 : RegOk [⟨(some (.l (.r (.l (.r p2))))), none, (.move (.t (.l (.l p2))))⟩, ⟨(some (.r (.r (.l (.r p2))))), none, (.bin .add (.c (.sc (.int .i64 (.ofNat (nat_lit 1))))) (.t (.l (.r (.l (.r p2))))))⟩, ⟨(some (.l (.l (.r (.r p2))))), none, (.move (.t (.r (.l p2))))⟩, ⟨(some (.r (.l (.r (.r p2))))), none, (.more (.conv .u64 (.t (.l (.l (.r (.r p2)))))))⟩, ⟨(some (.l (.r (.r (.r p2))))), none, (.more (.idxA (nat_lit 50) (nat_lit 1) (.t (.l p2)) (.t (.r (.r (.l (.r p2)))))))⟩, ⟨none, none, (.more (.store (nat_lit 1) (.t (.l (.r (.r (.r p2))))) (.t (.r (.l (.r (.r p2)))))))⟩] [] r14x9 := by
  intro call ρ st K
  kernel_rfl
noncomputable def r14x10 : RF := fun call ρ st K => binK .add (ρ (.l (.r (.r (.l p2))))) (i6 1) (fun v => (fun v0 st => K [v0] st) v st)
theorem h14x10 : RegOk [⟨(some (.r (.r (.r (.r p2))))), none, (.bin .add (.t (.l (.r (.r (.l p2))))) (.c (.sc (.int .i64 (.ofNat (nat_lit 1))))))⟩, ⟨(some (.l (.r (.r (.l p2))))), none, (.move (.t (.r (.r (.r (.r p2))))))⟩] [(.l (.r (.r (.l p2))))] r14x10 := by
  intro call ρ st K
  kernel_rfl
noncomputable def r14x11 : RF := fun call ρ st K => K [(i6 0)] st
theorem h14x11 : RegOk [⟨(some (.l (.l (.l (.l (.l p1)))))), none, (.move (.c (.sc (.int .i64 (.ofNat (nat_lit 0))))))⟩] [(.l (.l (.l (.l (.l p1)))))] r14x11 := by
  intro call ρ st K
  kernel_rfl
noncomputable def r14x12 : RF := fun call ρ st K => binK .lss (ρ (.l (.l (.l (.l (.l p1)))))) (i6 16) (fun v => (fun v0 st => K [v0] st) v st)
theorem h14x12 : RegOk [⟨(some (.r (.l (.l (.l (.l p1)))))), none, (.bin .lss (.t (.l (.l (.l (.l (.l p1)))))) (.c (.sc (.int .i64 (.ofNat (nat_lit 16))))))⟩] [(.r (.l (.l (.l (.l p1)))))] r14x12 := by
  intro call ρ st K
  kernel_rfl
noncomputable def r14x13 : RF := fun call ρ st K => (fun v0 => K [v0] st) (ρ (.l (.l (.l (.l (.l p1))))))
theorem h14x13 : RegOk [⟨(some (.l (.r (.l (.l (.l p1)))))), none, (.move (.t (.l (.l (.l (.l (.l p1)))))))⟩, ⟨(some (.l (.r p2))), none, (.move (.t (.l (.r (.l (.l (.l p1)))))))⟩] [(.l (.r p2))] r14x13 := by
  intro call ρ st K
  kernel_rfl
noncomputable def r14x14 : RF := fun call ρ st K => binK .add (i6 5) (ρ (.l (.r p2))) (fun v => (fun v0 st => ixA (nat_lit 50) (nat_lit 1) (ρ (.l p2)) (i6 21) (fun v => (fun v1 st => ld1 st v1 (fun v => (fun v2 st => h_op4_shift false (.c v2) (.c (ρ (.l (.r p2)))) call ρ st (fun v3 st => binK .and v3 (u6 1) (fun v => (fun v4 st => ixA (nat_lit 50) (nat_lit 1) (ρ (.l p2)) v0 (fun v => (fun v5 st => sto st (nat_lit 1) v5 v4 ((fun _ st => K [] st) undefV)) v st)) v st))) v st)) v st)) v st)
theorem h14x14 : RegOk [⟨(some (.r (.r (.l (.l (.l p1)))))), none, (.move (.t (.l (.r p2))))⟩, ⟨(some (.l (.l (.r (.l (.l p1)))))), none, (.bin .add (.c (.sc (.int .i64 (.ofNat (nat_lit 5))))) (.t (.r (.r (.l (.l (.l p1)))))))⟩, ⟨(some (.r (.l (.r (.l (.l p1)))))), none, (.more (.idxA (nat_lit 50) (nat_lit 1) (.t (.l p2)) (.c (.sc (.int .i64 (.ofNat (nat_lit 21)))))))⟩, ⟨(some (.l (.r (.r (.l (.l p1)))))), none, (.load1 (.t (.r (.l (.r (.l (.l p1)))))))⟩, ⟨(some (.r (.r (.r (.l (.l p1)))))), none, (.move (.t (.l (.r p2))))⟩, ⟨(some (.l (.l (.l (.r (.l p1)))))), none, (.more (.more (.more (.shift false (.t (.l (.r (.r (.l (.l p1)))))) (.t (.r (.r (.r (.l (.l p1))))))))))⟩, ⟨(some (.r (.l (.l (.r (.l p1)))))), none, (.bin .and (.t (.l (.l (.l (.r (.l p1)))))) (.c (.sc (.int .u64 (.ofNat (nat_lit 1))))))⟩, ⟨(some (.l (.r (.l (.r (.l p1)))))), none, (.more (.idxA (nat_lit 50) (nat_lit 1) (.t (.l p2)) (.t (.l (.l (.r (.l (.l p1))))))))⟩, ⟨none, none, (.more (.store (nat_lit 1) (.t (.l (.r (.l (.r (.l p1)))))) (.t (.r (.l (.l (.r (.l p1))))))))⟩] [] r14x14 := by
  intro call ρ st K
  kernel_rfl
noncomputable def r14x15 : RF := fun call ρ st K => binK .add (ρ (.l (.l (.l (.l (.l p1)))))) (i6 1) (fun v => (fun v0 st => K [v0] st) v st)
theorem h14x15 : RegOk [⟨(some (.r (.r (.l (.r (.l p1)))))), none, (.bin .add (.t (.l (.l (.l (.l (.l p1)))))) (.c (.sc (.int .i64 (.ofNat (nat_lit 1))))))⟩, ⟨(some (.l (.l (.l (.l (.l p1)))))), none, (.move (.t (.r (.r (.l (.r (.l p1)))))))⟩] [(.l (.l (.l (.l (.l p1)))))] r14x15 := by
  intro call ρ st K
  kernel_rfl
noncomputable def r14x16 : RF := fun call ρ st K => fad (nat_lit 1) (ρ (.r p2)) (fun v => (fun v0 st => ld1 st v0 (fun v => (fun v1 st => fad (nat_lit 1) (ρ (.l (.l p1))) (fun v => (fun v2 st => ixA (nat_lit 4) (nat_lit 1) v2 v1 (fun v => (fun v3 st => ld1 st v3 (fun v => (fun v4 st => cnv .u64 v4 (fun v => (fun v5 st => call (nat_lit 30) [(ρ (.l p2)), (i6 25), (i6 26), v5] st (fun v6 st => K [] st)) v st)) v st)) v st)) v st)) v st)) v st)
theorem h14x16 : RegOk [⟨(some (.l (.l (.r (.r (.l p1)))))), none, (.fa (nat_lit 1) (.t (.r p2)))⟩, ⟨(some (.r (.l (.r (.r (.l p1)))))), none, (.load1 (.t (.l (.l (.r (.r (.l p1)))))))⟩, ⟨(some (.l (.r (.r (.r (.l p1)))))), none, (.fa (nat_lit 1) (.t (.l (.l p1))))⟩, ⟨(some (.r (.r (.r (.r (.l p1)))))), none, (.more (.idxA (nat_lit 4) (nat_lit 1) (.t (.l (.r (.r (.r (.l p1)))))) (.t (.r (.l (.r (.r (.l p1))))))))⟩, ⟨(some (.l (.l (.l (.l (.r p1)))))), none, (.load1 (.t (.r (.r (.r (.r (.l p1)))))))⟩, ⟨(some (.r (.l (.l (.l (.r p1)))))), none, (.more (.conv .u64 (.t (.l (.l (.l (.l (.r p1))))))))⟩, ⟨(some (.l (.r (.l (.l (.r p1)))))), none, (.call (nat_lit 30) [(.t (.l p2)), (.c (.sc (.int .i64 (.ofNat (nat_lit 25))))), (.c (.sc (.int .i64 (.ofNat (nat_lit 26))))), (.t (.r (.l (.l (.l (.r p1))))))])⟩] [] r14x16 := by
  intro call ρ st K
  kernel_rfl
noncomputable def r14x17 : RF := fun call ρ st K => fad (nat_lit 0) (ρ (.r p2)) (fun v => (fun v0 st => ld1 st v0 (fun v => (fun v1 st => K [v1] st) v st)) v st)
theorem h14x17 : RegOk [⟨(some (.r (.r (.l (.l (.r p1)))))), none, (.fa (nat_lit 0) (.t (.r p2)))⟩, ⟨(some (.l (.l (.r (.l (.r p1)))))), none, (.load1 (.t (.r (.r (.l (.l (.r p1)))))))⟩] [(.l (.l (.r (.l (.r p1)))))] r14x17 := by
  intro call ρ st K
  kernel_rfl
noncomputable def r14x18 : RF := fun call ρ st K => binK .eql (ρ (.l (.l (.r (.l (.r p1)))))) (u8 3) (fun v => (fun v0 st => K [v0] st) v st)
theorem h14x18 : RegOk [⟨(some (.l (.r (.r (.l (.r p1)))))), none, (.bin .eql (.t (.l (.l (.r (.l (.r p1)))))) (.c (.sc (.int .u8 (.ofNat (nat_lit 3))))))⟩, ⟨(some (.r (.l (.r (.l (.r p1)))))), none, (.move (.t (.l (.r (.r (.l (.r p1)))))))⟩] [(.r (.l (.r (.l (.r p1)))))] r14x18 := by
  intro call ρ st K
  kernel_rfl
noncomputable def r14x19 : RF := fun call ρ st K => binK .add (ρ (.l (.r p1))) (ρ (.r (.r p1))) (fun v => (fun v0 st => h_op4_shift false (.c v0) (.c (u6 8)) call ρ st (fun v1 st => call (nat_lit 30) [(ρ (.l p2)), (.sc (.int .i64 (.negSucc (nat_lit 0)))), (i6 28), v1] st (fun v2 st => K [] st))) v st)
theorem h14x19 : RegOk [⟨(some (.r (.r (.r (.l (.r p1)))))), none, (.move (.t (.l (.r p1))))⟩, ⟨(some (.l (.l (.l (.r (.r p1)))))), none, (.move (.t (.r (.r p1))))⟩, ⟨(some (.r (.l (.l (.r (.r p1)))))), none, (.bin .add (.t (.r (.r (.r (.l (.r p1)))))) (.t (.l (.l (.l (.r (.r p1)))))))⟩, ⟨(some (.l (.r (.l (.r (.r p1)))))), none, (.more (.more (.more (.shift false (.t (.r (.l (.l (.r (.r p1)))))) (.c (.sc (.int .u64 (.ofNat (nat_lit 8)))))))))⟩, ⟨(some (.r (.r (.l (.r (.r p1)))))), none, (.call (nat_lit 30) [(.t (.l p2)), (.c (.sc (.int .i64 (.negSucc (nat_lit 0))))), (.c (.sc (.int .i64 (.ofNat (nat_lit 28))))), (.t (.l (.r (.l (.r (.r p1))))))])⟩] [] r14x19 := by
  intro call ρ st K
  kernel_rfl
noncomputable def r14x20 : RF := fun call ρ st K => binK .eql (ρ (.l (.l (.r (.l (.r p1)))))) (u8 5) (fun v => (fun v0 st => K [v0] st) v st)
theorem h14x20 : RegOk [⟨(some (.r (.l (.r (.r (.r p1)))))), none, (.bin .eql (.t (.l (.l (.r (.l (.r p1)))))) (.c (.sc (.int .u8 (.ofNat (nat_lit 5))))))⟩, ⟨(some (.l (.l (.r (.r (.r p1)))))), none, (.move (.t (.r (.l (.r (.r (.r p1)))))))⟩] [(.l (.l (.r (.r (.r p1)))))] r14x20 := by
  intro call ρ st K
  kernel_rfl
noncomputable def r14x21 : RF := fun call ρ st K => binK .mul (ρ (.l (.r p1))) (ρ (.r (.r p1))) (fun v => (fun v0 st => h_op4_shift false (.c v0) (.c (u6 8)) call ρ st (fun v1 st => call (nat_lit 30) [(ρ (.l p2)), (.sc (.int .i64 (.negSucc (nat_lit 0)))), (i6 28), v1] st (fun v2 st => K [] st))) v st)
theorem h14x21 : RegOk [⟨(some (.l (.r (.r (.r (.r p1)))))), none, (.move (.t (.l (.r p1))))⟩, ⟨(some (.r (.r (.r (.r (.r p1)))))), none, (.move (.t (.r (.r p1))))⟩, ⟨(some (.l (.l (.l (.l (.l p2)))))), none, (.bin .mul (.t (.l (.r (.r (.r (.r p1)))))) (.t (.r (.r (.r (.r (.r p1)))))))⟩, ⟨(some (.r (.l (.l (.l (.l p2)))))), none, (.more (.more (.more (.shift false (.t (.l (.l (.l (.l (.l p2)))))) (.c (.sc (.int .u64 (.ofNat (nat_lit 8)))))))))⟩, ⟨(some (.l (.r (.l (.l (.l p2)))))), none, (.call (nat_lit 30) [(.t (.l p2)), (.c (.sc (.int .i64 (.negSucc (nat_lit 0))))), (.c (.sc (.int .i64 (.ofNat (nat_lit 28))))), (.t (.r (.l (.l (.l (.l p2))))))])⟩] [] r14x21 := by
  intro call ρ st K
  kernel_rfl
noncomputable def r14x22 : RF := fun call ρ st K => binK .eql (ρ (.l (.l (.r (.l (.r p1)))))) (u8 4) (fun v => (fun v0 st => K [v0] st) v st)
theorem h14x22 : RegOk [⟨(some (.l (.l (.r (.l (.l p2)))))), none, (.bin .eql (.t (.l (.l (.r (.l (.r p1)))))) (.c (.sc (.int .u8 (.ofNat (nat_lit 4))))))⟩, ⟨(some (.r (.r (.l (.l (.l p2)))))), none, (.move (.t (.l (.l (.r (.l (.l p2)))))))⟩] [(.r (.r (.l (.l (.l p2)))))] r14x22 := by
  intro call ρ st K
  kernel_rfl
noncomputable def r14x23 : RF := fun call ρ st K => binK .sub (ρ (.l (.r p1))) (ρ (.r (.r p1))) (fun v => (fun v0 st => h_op4_shift false (.c v0) (.c (u6 63)) call ρ st (fun v1 st => call (nat_lit 30) [(ρ (.l p2)), (.sc (.int .i64 (.negSucc (nat_lit 0)))), (i6 28), v1] st (fun v2 st => K [] st))) v st)
theorem h14x23 : RegOk [⟨(some (.r (.l (.r (.l (.l p2)))))), none, (.move (.t (.l (.r p1))))⟩, ⟨(some (.l (.r (.r (.l (.l p2)))))), none, (.move (.t (.r (.r p1))))⟩, ⟨(some (.r (.r (.r (.l (.l p2)))))), none, (.bin .sub (.t (.r (.l (.r (.l (.l p2)))))) (.t (.l (.r (.r (.l (.l p2)))))))⟩, ⟨(some (.l (.l (.l (.r (.l p2)))))), none, (.more (.more (.more (.shift false (.t (.r (.r (.r (.l (.l p2)))))) (.c (.sc (.int .u64 (.ofNat (nat_lit 63)))))))))⟩, ⟨(some (.r (.l (.l (.r (.l p2)))))), none, (.call (nat_lit 30) [(.t (.l p2)), (.c (.sc (.int .i64 (.negSucc (nat_lit 0))))), (.c (.sc (.int .i64 (.ofNat (nat_lit 28))))), (.t (.l (.l (.l (.r (.l p2))))))])⟩] [] r14x23 := by
  intro call ρ st K
  kernel_rfl
noncomputable def r14x24 : RF := fun call ρ st K => binK .eql (ρ (.l (.l (.r (.l (.r p1)))))) (u8 8) (fun v => (fun v0 st => K [v0] st) v st)
theorem h14x24 : RegOk [⟨(some (.r (.r (.l (.r (.l p2)))))), none, (.bin .eql (.t (.l (.l (.r (.l (.r p1)))))) (.c (.sc (.int .u8 (.ofNat (nat_lit 8))))))⟩, ⟨(some (.l (.r (.l (.r (.l p2)))))), none, (.move (.t (.r (.r (.l (.r (.l p2)))))))⟩] [(.l (.r (.l (.r (.l p2)))))] r14x24 := by
  intro call ρ st K
  kernel_rfl
noncomputable def r14x25 : RF := fun call ρ st K => call (nat_lit 31) [(i6 3), (ρ (.l (.r p1)))] st (fun v0 st => ixA (nat_lit 50) (nat_lit 1) (ρ (.l p2)) (i6 30) (fun v => (fun v1 st => sto st (nat_lit 1) v1 v0 ((fun _ st => K [] st) undefV)) v st))
theorem h14x25 : RegOk [⟨(some (.l (.l (.r (.r (.l p2)))))), none, (.move (.t (.l (.r p1))))⟩, ⟨(some (.r (.l (.r (.r (.l p2)))))), none, (.call (nat_lit 31) [(.c (.sc (.int .i64 (.ofNat (nat_lit 3))))), (.t (.l (.l (.r (.r (.l p2))))))])⟩, ⟨(some (.l (.r (.r (.r (.l p2)))))), none, (.more (.idxA (nat_lit 50) (nat_lit 1) (.t (.l p2)) (.c (.sc (.int .i64 (.ofNat (nat_lit 30)))))))⟩, ⟨none, none, (.more (.store (nat_lit 1) (.t (.l (.r (.r (.r (.l p2)))))) (.t (.r (.l (.r (.r (.l p2))))))))⟩] [] r14x25 := by
  intro call ρ st K
  kernel_rfl
noncomputable def r14x26 : RF := fun call ρ st K => h_op4_minmax false [(.c (ρ (.l (.r p1)))), (.c (u6 1))] call ρ st (fun v0 st => ixA (nat_lit 50) (nat_lit 1) (ρ (.l p2)) (i6 31) (fun v => (fun v1 st => sto st (nat_lit 1) v1 v0 ((fun _ st => K [] st) undefV)) v st))
theorem h14x26 : RegOk [⟨(some (.r (.r (.r (.r (.l p2)))))), none, (.move (.t (.l (.r p1))))⟩, ⟨(some (.l (.l (.l (.l (.r p2)))))), none, (.more (.more (.more (.minmax false [(.t (.r (.r (.r (.r (.l p2)))))), (.c (.sc (.int .u64 (.ofNat (nat_lit 1)))))]))))⟩, ⟨(some (.r (.l (.l (.l (.r p2)))))), none, (.more (.idxA (nat_lit 50) (nat_lit 1) (.t (.l p2)) (.c (.sc (.int .i64 (.ofNat (nat_lit 31)))))))⟩, ⟨none, none, (.more (.store (nat_lit 1) (.t (.r (.l (.l (.l (.r p2)))))) (.t (.l (.l (.l (.l (.r p2))))))))⟩] [] r14x26 := by
  intro call ρ st K
  kernel_rfl
noncomputable def r14x27 : RF := fun call ρ st K => call (nat_lit 30) [(ρ (.l p2)), (.sc (.int .i64 (.negSucc (nat_lit 0)))), (i6 32), (ρ (.r (.r p1)))] st (fun v0 st => K [] st)
theorem h14x27 : RegOk [⟨(some (.l (.r (.l (.l (.r p2)))))), none, (.move (.t (.r (.r p1))))⟩, ⟨(some (.r (.r (.l (.l (.r p2)))))), none, (.call (nat_lit 30) [(.t (.l p2)), (.c (.sc (.int .i64 (.negSucc (nat_lit 0))))), (.c (.sc (.int .i64 (.ofNat (nat_lit 32))))), (.t (.l (.r (.l (.l (.r p2))))))])⟩] [] r14x27 := by
  intro call ρ st K
  kernel_rfl
noncomputable def r14x28 : RF := fun call ρ st K => binK .rem (ρ (.r (.r p1))) (u6 16) (fun v => (fun v0 st => fad (nat_lit 5) (ρ (.l (.l p1))) (fun v => (fun v1 st => ixA (nat_lit 16) (nat_lit 1) v1 v0 (fun v => (fun v2 st => ld1 st v2 (fun v => (fun v3 st => cnv .u64 v3 (fun v => (fun v4 st => ixA (nat_lit 50) (nat_lit 1) (ρ (.l p2)) (i6 34) (fun v => (fun v5 st => sto st (nat_lit 1) v5 v4 ((fun _ st => K [] st) undefV)) v st)) v st)) v st)) v st)) v st)) v st)
theorem h14x28 : RegOk [⟨(some (.l (.l (.r (.l (.r p2)))))), none, (.move (.t (.r (.r p1))))⟩, ⟨(some (.r (.l (.r (.l (.r p2)))))), none, (.bin .rem (.t (.l (.l (.r (.l (.r p2)))))) (.c (.sc (.int .u64 (.ofNat (nat_lit 16))))))⟩, ⟨(some (.l (.r (.r (.l (.r p2)))))), none, (.fa (nat_lit 5) (.t (.l (.l p1))))⟩, ⟨(some (.r (.r (.r (.l (.r p2)))))), none, (.more (.idxA (nat_lit 16) (nat_lit 1) (.t (.l (.r (.r (.l (.r p2)))))) (.t (.r (.l (.r (.l (.r p2))))))))⟩, ⟨(some (.l (.l (.l (.r (.r p2)))))), none, (.load1 (.t (.r (.r (.r (.l (.r p2)))))))⟩, ⟨(some (.r (.l (.l (.r (.r p2)))))), none, (.more (.conv .u64 (.t (.l (.l (.l (.r (.r p2))))))))⟩, ⟨(some (.l (.r (.l (.r (.r p2)))))), none, (.more (.idxA (nat_lit 50) (nat_lit 1) (.t (.l p2)) (.c (.sc (.int .i64 (.ofNat (nat_lit 34)))))))⟩, ⟨none, none, (.more (.store (nat_lit 1) (.t (.l (.r (.l (.r (.r p2)))))) (.t (.r (.l (.l (.r (.r p2))))))))⟩] [] r14x28 := by
  intro call ρ st K
  kernel_rfl
noncomputable def r14x29 : RF := fun call ρ st K => ldN st (nat_lit 50) (ρ (.l p2)) (fun v => (fun v0 st => sto st (nat_lit 50) (ρ (.r p1)) v0 ((fun _ st => K [] st) undefV)) v st)
theorem h14x29 : RegOk [⟨(some (.r (.r (.l (.r (.r p2)))))), none, (.loadN (nat_lit 50) (.t (.l p2)))⟩, ⟨none, none, (.more (.store (nat_lit 50) (.t (.r p1)) (.t (.r (.r (.l (.r (.r p2))))))))⟩] [] r14x29 := by
  intro call ρ st K
  kernel_rfl
/- attestor/trace.line -/
noncomputable def cf14 : HF := ⟨(.seq (.reg _ _ _ h14x0)
 (.seq (.reg _ _ _ h14x1)
 (.seq (.reg _ _ _ h14x2)
 (.seq (.reg _ _ _ h14x3)
 (.seq (.drw _ _ _ h14x4)
 (.seq (.drw _ _ _ h14x5)
 (.seq (.seq (.reg _ _ _ h14x6)
 (.block (nat_lit 0) (.loop (.seq (.reg _ _ _ h14x7)
 (.seq (.cond (.t (.r (.r (.r (.l p2))))) .skip
 (.exit (nat_lit 0)))
 (.seq (.block (nat_lit 1) (.seq (.reg _ _ _ h14x8)
 (.reg _ _ _ h14x9)))
 (.reg _ _ _ h14x10)))))))
 (.seq (.seq (.reg _ _ _ h14x11)
 (.block (nat_lit 2) (.loop (.seq (.reg _ _ _ h14x12)
 (.seq (.cond (.t (.r (.l (.l (.l (.l p1)))))) .skip
 (.exit (nat_lit 2)))
 (.seq (.block (nat_lit 3) (.seq (.reg _ _ _ h14x13)
 (.reg _ _ _ h14x14)))
 (.reg _ _ _ h14x15)))))))
 (.seq (.reg _ _ _ h14x16)
 (.seq (.seq (.reg _ _ _ h14x17)
 (.block (nat_lit 4) (.seq (.reg _ _ _ h14x18)
 (.cond (.t (.r (.l (.r (.l (.r p1)))))) (.reg _ _ _ h14x19)
 (.seq (.reg _ _ _ h14x20)
 (.cond (.t (.l (.l (.r (.r (.r p1)))))) (.reg _ _ _ h14x21)
 (.seq (.reg _ _ _ h14x22)
 (.cond (.t (.r (.r (.l (.l (.l p2)))))) (.reg _ _ _ h14x23)
 (.seq (.reg _ _ _ h14x24)
 (.cond (.t (.l (.r (.l (.r (.l p2)))))) (.seq (.reg _ _ _ h14x25)
 (.reg _ _ _ h14x26))
 .skip))))))))))
 (.seq (.reg _ _ _ h14x27)
 (.seq (.reg _ _ _ h14x28)
 (.seq (.reg _ _ _ h14x29)
 .ret))))))))))))), [(.cellN (nat_lit 50) (.r p1))], [p0, p1], [(.r (.r p2)), (.l (.l (.l p1))), (.r (.l (.l p1))), (.l (.r (.l p1))), (.l (.l (.r p1))), (.r (.l (.r p1))), (.l (.r (.r p1))), (.r (.r (.l p1))), (.r (.r (.r p1))), (.l (.l (.l p2))), (.r (.l p1)), (.r (.l (.l p2))), (.l (.r (.l p2))), (.r (.r (.l p2))), (.l (.l (.r p2))), (.r (.l (.r p2))), (.l (.r (.r p2))), (.r (.r (.r p2))), (.l (.l (.l (.l p1)))), (.r (.l (.l (.l p1)))), (.l (.r (.l (.l p1)))), (.r (.r (.l (.l p1)))), (.l (.l (.r (.l p1)))), (.r (.l (.r (.l p1)))), (.l (.r (.r (.l p1)))), (.r (.r (.r (.l p1)))), (.l (.l (.l (.r p1)))), (.r (.l (.l (.r p1)))), (.l (.r (.l (.r p1)))), (.r (.r (.l (.r p1)))), (.l (.l (.r (.r p1)))), (.r (.l (.r (.r p1)))), (.l (.r (.r (.r p1)))), (.r (.r (.r (.r p1)))), (.l (.l (.l (.l p2)))), (.r (.l (.l (.l p2)))), (.l (.r (.l (.l p2)))), (.r (.r (.l (.l p2)))), (.l (.l (.r (.l p2)))), (.l (.l (.l (.r p2)))), (.r (.l (.l (.r p2)))), (.l (.r (.l (.r p2)))), (.r (.r (.l (.r p2)))), (.l (.l (.r (.r p2)))), (.r (.l (.r (.r p2)))), (.l (.r (.r (.r p2)))), (.r (.r (.r (.r p2)))), (.l (.r (.l (.l (.l p1))))), (.r (.r (.l (.l (.l p1))))), (.l (.l (.r (.l (.l p1))))), (.r (.l (.r (.l (.l p1))))), (.l (.r (.r (.l (.l p1))))), (.r (.r (.r (.l (.l p1))))), (.l (.l (.l (.r (.l p1))))), (.r (.l (.l (.r (.l p1))))), (.l (.r (.l (.r (.l p1))))), (.r (.r (.l (.r (.l p1))))), (.l (.l (.r (.r (.l p1))))), (.r (.l (.r (.r (.l p1))))), (.l (.r (.r (.r (.l p1))))), (.r (.r (.r (.r (.l p1))))), (.l (.l (.l (.l (.r p1))))), (.r (.l (.l (.l (.r p1))))), (.l (.r (.l (.l (.r p1))))), (.r (.r (.l (.l (.r p1))))), (.l (.r (.r (.l (.r p1))))), (.r (.r (.r (.l (.r p1))))), (.l (.l (.l (.r (.r p1))))), (.r (.l (.l (.r (.r p1))))), (.l (.r (.l (.r (.r p1))))), (.r (.r (.l (.r (.r p1))))), (.r (.l (.r (.r (.r p1))))), (.l (.r (.r (.r (.r p1))))), (.r (.r (.r (.r (.r p1))))), (.l (.l (.l (.l (.l p2))))), (.r (.l (.l (.l (.l p2))))), (.l (.r (.l (.l (.l p2))))), (.l (.l (.r (.l (.l p2))))), (.r (.l (.r (.l (.l p2))))), (.l (.r (.r (.l (.l p2))))), (.r (.r (.r (.l (.l p2))))), (.l (.l (.l (.r (.l p2))))), (.r (.l (.l (.r (.l p2))))), (.r (.r (.l (.r (.l p2))))), (.l (.l (.r (.r (.l p2))))), (.r (.l (.r (.r (.l p2))))), (.l (.r (.r (.r (.l p2))))), (.r (.r (.r (.r (.l p2))))), (.l (.l (.l (.l (.r p2))))), (.r (.l (.l (.l (.r p2))))), (.l (.r (.l (.l (.r p2))))), (.r (.r (.l (.l (.r p2))))), (.l (.l (.r (.l (.r p2))))), (.r (.l (.r (.l (.r p2))))), (.l (.r (.r (.l (.r p2))))), (.r (.r (.r (.l (.r p2))))), (.l (.l (.l (.r (.r p2))))), (.r (.l (.l (.r (.r p2))))), (.l (.r (.l (.r (.r p2))))), (.r (.r (.l (.r (.r p2)))))]⟩
end Go.Proofs.YtffaehgicojjmaaDoor.Ev
