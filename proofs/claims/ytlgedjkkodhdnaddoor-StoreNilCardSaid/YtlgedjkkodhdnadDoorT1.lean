/- Compiled functions of the translated program, and that each is what the compiler makes of it; no conditions. -/
import Derived.Test.YtlgedjkkodhdnadDoorEvC
import Derived.KernelRfl
namespace Go.Proofs.YtlgedjkkodhdnadDoor.Ev
set_option maxRecDepth 100000
set_option linter.unusedVariables false
/- slices.nextPowerOfTwo -/
noncomputable def cf51 : HF := ⟨
(.seq (.reg [q2] fun c r s K => K [U0] s)
 (.seq (.reg [q2] fun c r s K => cnv .u64 (r q0) fun v0 => c n31 [v0] s fun v1 s => xS true U1 v1 c r s fun v2 s => K [v2] s)
 .ret)), [(.tmp q2)], [q0], [q3, q4, q5, q6]⟩
/- slices.heapSortOrdered[int] -/
noncomputable def cf38 : HF := ⟨
(.seq (.reg [q6] fun c r s K => K [(r q1)] s)
 (.seq (.reg [q7] fun c r s K => K [I0] s)
 (.seq (.reg [q8] fun c r s K => binK .sub (r q2) (r q1) fun v0 => K [v0] s)
 (.seq (.seq (.reg [q9] fun c r s K => binK .sub (r q8) I1 fun v0 => binK .quo v0 I2 fun v1 => K [v1] s)
 (.block n0 (.loop (.seq (.seq (.reg [q19] fun c r s K => binK .geq (r q9) I0 fun v0 => K [v0] s)
 (.cond (.t q19) .skip
 (.exit n0)))
 (.seq (.block n1 (.reg [] fun c r s K => c n50 [(r q0), (r q9), (r q8), (r q6)] s fun v0 s => K [] s))
 (.reg [q9] fun c r s K => binK .sub (r q9) I1 fun v0 => K [v0] s))))))
 (.seq (.reg [q10] fun c r s K => binK .sub (r q8) I1 fun v0 => K [v0] s)
 (.block n2 (.loop (.seq (.seq (.reg [q30] fun c r s K => binK .geq (r q10) I0 fun v0 => K [v0] s)
 (.cond (.t q30) .skip
 (.exit n2)))
 (.seq (.block n3 (.seq (.drw [] fun c r s K => (fun z m => binK .add (r q6) (r q10) fun v0 => binK .add (r q6) (r q10) fun v1 => ixs n1 (r q0) v1 fun v2 => dL z m (nat_lit 2048) (nat_lit 1984) s v2 fun v3 m s => ixs n1 (r q0) (r q6) fun v4 => dL z m (nat_lit 32768) (nat_lit 28672) s v4 fun v5 m s => ixs n1 (r q0) (r q6) fun v6 => dS z m (nat_lit 131072) (nat_lit 131011) s n1 v6 v3 fun _ m s => ixs n1 (r q0) v0 fun v8 => dS z m (nat_lit 524288) (nat_lit 524287) s n1 v8 v5 fun _ m s => K [] s) s.next mk0)
 (.reg [] fun c r s K => c n50 [(r q0), (r q7), (r q10), (r q6)] s fun v0 s => K [] s)))
 (.reg [q10] fun c r s K => binK .sub (r q10) I1 fun v0 => K [v0] s)))))))))), [], [q0, q1, q2], [q11, q12, q13, q14, q15, q16, q17, q18, q22, q23, q24, q25, q26, q20, q21, q27, q28, q29, q33, q34, q35, q36, q37, q38, q39, q40, q41, q42, q43, q44, q45, q46, q47, q48, q49, q50, q51, q52, q53, q54, q55, q31, q32]⟩
/- slices.siftDownOrdered[int] -/
noncomputable def cf50 : HF := ⟨
(.seq (.reg [q8] fun c r s K => K [(r q1)] s)
 (.block n0 (.loop (.block n1 (.seq (.reg [q9] fun c r s K => binK .mul I2 (r q8) fun v0 => binK .add v0 I1 fun v1 => K [v1] s)
 (.seq (.seq (.reg [q16] fun c r s K => binK .geq (r q9) (r q2) fun v0 => K [v0] s)
 (.cond (.t q16) (.exit n0)
 .skip))
 (.seq (.seq (.drw [q36] fun c r s K => (fun z m => binK .add (r q9) I1 fun v0 => binK .lss v0 (r q2) fun v1 => jnD true v1 (fun jj => jj (r q0) m s) m s fun v2 m s => jnD true v1 (fun jj => jj (r q3) m s) m s fun v3 m s => jnD true v1 (fun jj => jj (r q9) m s) m s fun v4 m s => jnD true v1 (fun jj => binK .add v3 v4 fun v => jj v m s) m s fun v5 m s => jnD true v1 (fun jj => ixs n1 v2 v5 fun v => jj v m s) m s fun v6 m s => jnD true v1 (fun jj => dL z m (nat_lit 1024) (nat_lit 1023) s v6 jj) m s fun v7 m s => jnD true v1 (fun jj => jj (r q0) m s) m s fun v8 m s => jnD true v1 (fun jj => jj (r q3) m s) m s fun v9 m s => jnD true v1 (fun jj => jj (r q9) m s) m s fun v10 m s => jnD true v1 (fun jj => binK .add v9 v10 fun v => jj v m s) m s fun v11 m s => jnD true v1 (fun jj => binK .add v11 I1 fun v => jj v m s) m s fun v12 m s => jnD true v1 (fun jj => ixs n1 v8 v12 fun v => jj v m s) m s fun v13 m s => jnD true v1 (fun jj => dL z m (nat_lit 131072) (nat_lit 129055) s v13 jj) m s fun v14 m s => jnD true v1 (fun jj => dw3 m (nat_lit 262144) (nat_lit 262143) s (fun s q => c n43 [v7, v14] s q) jj) m s fun v15 m s => pck v1 v15 ff fun v16 => K [v16] s) s.next mk0)
 (.cond (.t q36) (.reg [q9] fun c r s K => binK .add (r q9) I1 fun v0 => K [v0] s)
 .skip))
 (.seq (.seq (.drw [q52] fun c r s K => (fun z m => binK .add (r q3) (r q8) fun v0 => ixs n1 (r q0) v0 fun v1 => dL z m n32 n31 s v1 fun v2 m s => binK .add (r q3) (r q9) fun v3 => ixs n1 (r q0) v3 fun v4 => dL z m (nat_lit 2048) (nat_lit 1984) s v4 fun v5 m s => dw3 m (nat_lit 4096) (nat_lit 4095) s (fun s q => c n43 [v2, v5] s q) fun v6 m s => nott v6 fun v7 => K [v7] s) s.next mk0)
 (.cond (.t q52) .ret
 .skip))
 (.seq (.drw [] fun c r s K => (fun z m => binK .add (r q3) (r q8) fun v0 => binK .add (r q3) (r q9) fun v1 => binK .add (r q3) (r q9) fun v2 => ixs n1 (r q0) v2 fun v3 => dL z m (nat_lit 8192) (nat_lit 7936) s v3 fun v4 m s => binK .add (r q3) (r q8) fun v5 => ixs n1 (r q0) v5 fun v6 => dL z m (nat_lit 524288) (nat_lit 507904) s v6 fun v7 m s => ixs n1 (r q0) v0 fun v8 => dS z m (nat_lit 2097152) (nat_lit 2096911) s n1 v8 v4 fun _ m s => ixs n1 (r q0) v1 fun v10 => dS z m (nat_lit 8388608) (nat_lit 8388607) s n1 v10 v7 fun _ m s => K [] s) s.next mk0)
 (.reg [q8] fun c r s K => K [(r q9)] s)))))))))), [], [q0, q1, q2, q3], [q10, q11, q12, q13, q14, q15, q17, q18, q19, q20, q21, q22, q23, q24, q25, q26, q27, q28, q29, q30, q31, q32, q33, q34, q35, q37, q38, q39, q40, q41, q42, q43, q44, q45, q46, q47, q48, q49, q50, q51, q53, q54, q55, q56, q57, q58, q59, q60, q61, q62, q63, q64, q65, q66, q67, q68, q69, q70, q71, q72, q73, q74, q75]⟩
/- slices.insertionSortOrdered[int] -/
noncomputable def cf37 : HF := ⟨
(.seq (.reg [q6] fun c r s K => binK .add (r q1) I1 fun v0 => K [v0] s)
 (.block n0 (.loop (.seq (.seq (.reg [q12] fun c r s K => binK .lss (r q6) (r q2) fun v0 => K [v0] s)
 (.cond (.t q12) .skip
 (.exit n0)))
 (.seq (.block n1 (.seq (.reg [q7] fun c r s K => K [(r q6)] s)
 (.block n2 (.loop (.seq (.seq (.drw [q30] fun c r s K => (fun z m => binK .gtr (r q7) (r q1) fun v0 => jnD true v0 (fun jj => jj (r q0) m s) m s fun v1 m s => jnD true v0 (fun jj => jj (r q7) m s) m s fun v2 m s => jnD true v0 (fun jj => ixs n1 v1 v2 fun v => jj v m s) m s fun v3 m s => jnD true v0 (fun jj => dL z m n128 n127 s v3 jj) m s fun v4 m s => jnD true v0 (fun jj => jj (r q0) m s) m s fun v5 m s => jnD true v0 (fun jj => jj (r q7) m s) m s fun v6 m s => jnD true v0 (fun jj => binK .sub v6 I1 fun v => jj v m s) m s fun v7 m s => jnD true v0 (fun jj => ixs n1 v5 v7 fun v => jj v m s) m s fun v8 m s => jnD true v0 (fun jj => dL z m (nat_lit 4096) (nat_lit 3855) s v8 jj) m s fun v9 m s => jnD true v0 (fun jj => dw3 m (nat_lit 8192) (nat_lit 8191) s (fun s q => c n43 [v4, v9] s q) jj) m s fun v10 m s => pck v0 v10 ff fun v11 => K [v11] s) s.next mk0)
 (.cond (.t q30) .skip
 (.exit n2)))
 (.seq (.block n3 (.drw [] fun c r s K => (fun z m => binK .sub (r q7) I1 fun v0 => binK .sub (r q7) I1 fun v1 => ixs n1 (r q0) v1 fun v2 => dL z m (nat_lit 512) (nat_lit 480) s v2 fun v3 m s => ixs n1 (r q0) (r q7) fun v4 => dL z m (nat_lit 8192) (nat_lit 7168) s v4 fun v5 m s => ixs n1 (r q0) (r q7) fun v6 => dS z m (nat_lit 32768) (nat_lit 32739) s n1 v6 v3 fun _ m s => ixs n1 (r q0) v0 fun v8 => dS z m (nat_lit 131072) (nat_lit 131071) s n1 v8 v5 fun _ m s => K [] s) s.next mk0))
 (.reg [q7] fun c r s K => binK .sub (r q7) I1 fun v0 => K [v0] s)))))))
 (.reg [q6] fun c r s K => binK .add (r q6) I1 fun v0 => K [v0] s)))))), [], [q0, q1, q2], [q8, q9, q10, q11, q15, q16, q17, q18, q19, q20, q21, q22, q23, q24, q25, q26, q27, q28, q29, q33, q34, q35, q36, q37, q38, q39, q40, q41, q42, q43, q44, q45, q46, q47, q48, q31, q32, q13, q14]⟩
/- math/bits.Len -/
noncomputable def cf31 : HF := ⟨
(.seq (.reg [q2] fun c r s K => K [I0] s)
 (.seq (.cond (.c (.sc (.bool false))) (.seq (.reg [q2] fun c r s K => cnv .u32 (r q0) fun v0 => c n46 [v0] s fun v1 s => K [v1] s)
 .ret)
 .skip)
 (.seq (.reg [q2] fun c r s K => c n47 [(r q0)] s fun v0 s => K [v0] s)
 .ret))), [(.tmp q2)], [q0], [q3, q4, q5, q6, q7]⟩
/- math/bits.Len64 -/
noncomputable def cf47 : HF := ⟨
(.seq (.reg [q2] fun c r s K => K [I0] s)
 (.seq (.seq (.reg [q4] fun c r s K => binK .geq (r q0) (u6 (nat_lit 4294967296)) fun v0 => K [v0] s)
 (.cond (.t q4) (.seq (.reg [q0] fun c r s K => xS false (r q0) U32 c r s fun v0 s => K [v0] s)
 (.reg [q2] fun c r s K => K [I32] s))
 .skip))
 (.seq (.seq (.reg [q8] fun c r s K => binK .geq (r q0) (u6 (nat_lit 65536)) fun v0 => K [v0] s)
 (.cond (.t q8) (.seq (.reg [q0] fun c r s K => xS false (r q0) U16 c r s fun v0 s => K [v0] s)
 (.reg [q2] fun c r s K => binK .add (r q2) I16 fun v0 => K [v0] s))
 .skip))
 (.seq (.seq (.reg [q14] fun c r s K => binK .geq (r q0) (u6 (nat_lit 256)) fun v0 => K [v0] s)
 (.cond (.t q14) (.seq (.reg [q0] fun c r s K => xS false (r q0) U8 c r s fun v0 s => K [v0] s)
 (.reg [q2] fun c r s K => binK .add (r q2) I8 fun v0 => K [v0] s))
 .skip))
 (.seq (.reg [q2] fun c r s K => cnv .u8 (r q0) fun v0 => h_op4_byteAt (.c (.sc (.lit (.string ⟨#[0, 1, 2, 2, 3, 3, 3, 3, 4, 4, 4, 4, 4, 4, 4, 4, 5, 5, 5, 5, 5, 5, 5, 5, 5, 5, 5, 5, 5, 5, 5, 5, 6, 6, 6, 6, 6, 6, 6, 6, 6, 6, 6, 6, 6, 6, 6, 6, 6, 6, 6, 6, 6, 6, 6, 6, 6, 6, 6, 6, 6, 6, 6, 6, 7, 7, 7, 7, 7, 7, 7, 7, 7, 7, 7, 7, 7, 7, 7, 7, 7, 7, 7, 7, 7, 7, 7, 7, 7, 7, 7, 7, 7, 7, 7, 7, 7, 7, 7, 7, 7, 7, 7, 7, 7, 7, 7, 7, 7, 7, 7, 7, 7, 7, 7, 7, 7, 7, 7, 7, 7, 7, 7, 7, 7, 7, 7, 7, 8, 8, 8, 8, 8, 8, 8, 8, 8, 8, 8, 8, 8, 8, 8, 8, 8, 8, 8, 8, 8, 8, 8, 8, 8, 8, 8, 8, 8, 8, 8, 8, 8, 8, 8, 8, 8, 8, 8, 8, 8, 8, 8, 8, 8, 8, 8, 8, 8, 8, 8, 8, 8, 8, 8, 8, 8, 8, 8, 8, 8, 8, 8, 8, 8, 8, 8, 8, 8, 8, 8, 8, 8, 8, 8, 8, 8, 8, 8, 8, 8, 8, 8, 8, 8, 8, 8, 8, 8, 8, 8, 8, 8, 8, 8, 8, 8, 8, 8, 8, 8, 8, 8, 8, 8, 8, 8, 8, 8, 8, 8, 8, 8, 8, 8, 8, 8, 8, 8, 8, 8, 8, 8, 8, 8, 8, 8, 8]⟩)))) (.c v0) c r s fun v1 s => cnv .i64 v1 fun v2 => binK .add (r q2) v2 fun v3 => K [v3] s)
 .ret))))), [(.tmp q2)], [q0], [q3, q5, q6, q7, q9, q10, q11, q12, q13, q15, q16, q17, q18, q19, q20, q21, q22, q23, q24]⟩
/- math/bits.Len32 -/
noncomputable def cf46 : HF := ⟨
(.seq (.reg [q2] fun c r s K => K [I0] s)
 (.seq (.seq (.reg [q4] fun c r s K => binK .geq (r q0) (.sc (.int .u32 (.ofNat (nat_lit 65536)))) fun v0 => K [v0] s)
 (.cond (.t q4) (.seq (.reg [q0] fun c r s K => xS false (r q0) U16 c r s fun v0 s => K [v0] s)
 (.reg [q2] fun c r s K => K [I16] s))
 .skip))
 (.seq (.seq (.reg [q8] fun c r s K => binK .geq (r q0) (.sc (.int .u32 (.ofNat (nat_lit 256)))) fun v0 => K [v0] s)
 (.cond (.t q8) (.seq (.reg [q0] fun c r s K => xS false (r q0) U8 c r s fun v0 s => K [v0] s)
 (.reg [q2] fun c r s K => binK .add (r q2) I8 fun v0 => K [v0] s))
 .skip))
 (.seq (.reg [q2] fun c r s K => cnv .u8 (r q0) fun v0 => h_op4_byteAt (.c (.sc (.lit (.string ⟨#[0, 1, 2, 2, 3, 3, 3, 3, 4, 4, 4, 4, 4, 4, 4, 4, 5, 5, 5, 5, 5, 5, 5, 5, 5, 5, 5, 5, 5, 5, 5, 5, 6, 6, 6, 6, 6, 6, 6, 6, 6, 6, 6, 6, 6, 6, 6, 6, 6, 6, 6, 6, 6, 6, 6, 6, 6, 6, 6, 6, 6, 6, 6, 6, 7, 7, 7, 7, 7, 7, 7, 7, 7, 7, 7, 7, 7, 7, 7, 7, 7, 7, 7, 7, 7, 7, 7, 7, 7, 7, 7, 7, 7, 7, 7, 7, 7, 7, 7, 7, 7, 7, 7, 7, 7, 7, 7, 7, 7, 7, 7, 7, 7, 7, 7, 7, 7, 7, 7, 7, 7, 7, 7, 7, 7, 7, 7, 7, 8, 8, 8, 8, 8, 8, 8, 8, 8, 8, 8, 8, 8, 8, 8, 8, 8, 8, 8, 8, 8, 8, 8, 8, 8, 8, 8, 8, 8, 8, 8, 8, 8, 8, 8, 8, 8, 8, 8, 8, 8, 8, 8, 8, 8, 8, 8, 8, 8, 8, 8, 8, 8, 8, 8, 8, 8, 8, 8, 8, 8, 8, 8, 8, 8, 8, 8, 8, 8, 8, 8, 8, 8, 8, 8, 8, 8, 8, 8, 8, 8, 8, 8, 8, 8, 8, 8, 8, 8, 8, 8, 8, 8, 8, 8, 8, 8, 8, 8, 8, 8, 8, 8, 8, 8, 8, 8, 8, 8, 8, 8, 8, 8, 8, 8, 8, 8, 8, 8, 8, 8, 8, 8, 8, 8, 8, 8, 8]⟩)))) (.c v0) c r s fun v1 s => cnv .i64 v1 fun v2 => binK .add (r q2) v2 fun v3 => K [v3] s)
 .ret)))), [(.tmp q2)], [q0], [q3, q5, q6, q7, q9, q10, q11, q12, q13, q14, q15, q16, q17, q18]⟩
/- (*attestor/store.Store).Put -/
noncomputable def cf5 : HF := ⟨
(.seq (.reg [q5, q6, q7] fun c r s K => bxx s (r q2) fun v0 s => K [v0, I0, I0] s)
 (.seq (.seq (.reg [q8] fun c r s K => lN s n7 (r q5) fun v0 => h_op3_build [zi, zu, zu, zn, zn, zi, (.bool false)] [(n0, n7, (.c v0))] c r s fun v1 s => bxx s v1 fun v2 s => h_op4_iface n54 (.c v2) c r s fun v3 s => c n19 [(r q0), (r q1), v3] s fun v4 s => K [v4] s)
 (.seq (.reg [q17] fun c r s K => binK .neq (r q8) I0 fun v0 => K [v0] s)
 (.cond (.t q17) (.seq (.reg [q6, q7] fun c r s K => K [I0, (r q8)] s)
 .ret)
 .skip)))
 (.seq (.reg [q6, q7] fun c r s K => xC (r q0) c r s fun v0 s => fad n3 v0 fun v1 => ld s v1 fun v2 => K [v2, I0] s)
 .ret))), [(.tmp q6), (.tmp q7)], [q0, q1, q2], [q9, q10, q11, q12, q13, q14, q15, q16, q18, q19, q20, q21, q22]⟩
/- (*attestor/store.Store).Sync -/
noncomputable def cf4 : HF := ⟨
(.seq (.reg [q3] fun c r s K => c n18 [(r q0)] s fun v0 s => K [v0] s)
 (.cond (.t q3) (.reg [] fun c r s K => xC (r q0) c r s fun v0 s => fad n5 v0 fun v1 => ld s v1 fun v2 => lnS v2 fun v3 => xC (r q0) c r s fun v4 s => fad n8 v4 fun v5 => sto s n1 v5 v3 fun s => K [] s)
 .skip)), [], [q0], [q2, q4, q5, q6, q7, q8, q9, q10, q11]⟩
end Go.Proofs.YtlgedjkkodhdnadDoor.Ev
