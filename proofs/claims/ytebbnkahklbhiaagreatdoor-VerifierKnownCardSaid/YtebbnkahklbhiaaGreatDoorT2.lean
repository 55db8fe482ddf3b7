/- Compiled functions of the translated program, and that each is what the compiler makes of it; no conditions. -/
import Derived.Test.YtebbnkahklbhiaaGreatDoorEvC
import Derived.KernelRfl
namespace Go.Proofs.YtebbnkahklbhiaaGreatDoor.Ev
set_option maxRecDepth 100000
set_option linter.unusedVariables false
/- slices.Repeat[[]attestor/api.On,attestor/api.On] -/
noncomputable def cf361 : HF := ⟨
(.seq (.reg [q4] fun c r s K => K [(.sc zn)] s)
 (.seq (.seq (.reg [q10] fun c r s K => binK .lss (r q1) I0 fun v0 => K [v0] s)
 (.cond (.t q10) (.reg [] fun c r s K => h_op4_iface n9 (.c (.sc (.lit (.string ⟨#[99, 97, 110, 110, 111, 116, 32, 98, 101, 32, 110, 101, 103, 97, 116, 105, 118, 101]⟩)))) c r s fun v0 s => h_op4_bad n102 c r s fun _ s => K [] s)
 .skip))
 (.seq (.reg [q5, q6] fun c r s K => lnS (r q0) fun v0 => cnv .u64 v0 fun v1 => cnv .u64 (r q1) fun v2 => c (nat_lit 376) [v1, v2] s fun v3 s => xE n0 v3 c r s fun v4 s => xE n1 v3 c r s fun v5 s => K [v4, v5] s)
 (.seq (.seq (.reg [q26] fun c r s K => binK .gtr (r q5) U0 fun v0 => mf v0 (r q6) s fun v1 s => jf v0 (binK .gtr v1 (u6 (nat_lit 9223372036854775807))) s fun v2 s => pck v0 tt v2 fun v3 => K [v3] s)
 (.cond (.t q26) (.reg [] fun c r s K => h_op4_iface n9 (.c (.sc (.lit (.string ⟨#[116, 104, 101, 32, 114, 101, 115, 117, 108, 116, 32, 111, 102, 32, 40, 108, 101, 110, 40, 120, 41, 32, 42, 32, 99, 111, 117, 110, 116, 41, 32, 111, 118, 101, 114, 102, 108, 111, 119, 115]⟩)))) c r s fun v0 s => h_op4_bad n102 c r s fun _ s => K [] s)
 .skip))
 (.seq (.reg [q7] fun c r s K => cnv .i64 (r q6) fun v0 => xM n1 n1 [zb] v0 v0 c r s fun v1 s => K [v1] s)
 (.seq (.reg [q8] fun c r s K => h_op3_copy n1 (.c (r q7)) (.c (r q0)) c r s fun v0 s => K [v0] s)
 (.seq (.block n0 (.loop (.seq (.seq (.reg [q37] fun c r s K => lnS (r q7) fun v0 => binK .lss (r q8) v0 fun v1 => K [v1] s)
 (.cond (.t q37) .skip
 (.exit n0)))
 (.block n1 (.drw [q8] fun c r s K => (fun z m => h_op3_sliceS n1 (.c (r q7)) (some (.c (r q8))) none none c r s fun v0 s => h_op3_sliceS n1 (.c (r q7)) none (some (.c (r q8))) none c r s fun v1 s => dw5 z m n128 n126 s (.more (.more (.copy n1 (.c v0) (.c v1)))) r (fun s q => h_op3_copy n1 (.c v0) (.c v1) c r s q) fun v2 m s => binK .add (r q8) v2 fun v3 => K [v3] s) s.next mk0)))))
 (.seq (.reg [q4] fun c r s K => K [(r q7)] s)
 .ret)))))))), [(.tmp q4)], [q0, q1], [q9, q11, q13, q14, q15, q16, q17, q18, q12, q19, q20, q21, q22, q23, q24, q25, q27, q28, q29, q30, q31, q32, q33, q34, q35, q36, q38, q39, q40, q41, q42, q43, q44, q45, q46, q47]⟩
/- attestor/compose.valid -/
noncomputable def cf131 : HF := ⟨
(.seq (.reg [q3, q4, q6] fun c r s K => bxx s (r q0) fun v0 s => bxx s (r q1) fun v1 s => K [v0, v1, ff] s)
 (.seq (.seq (.reg [q14] fun c r s K => lN s n8 (r q3) fun v0 => fad n0 (r q4) fun v1 => ld s v1 fun v2 => c n45 [v0, v2] s fun v3 s => nott v3 fun v4 => K [v4] s)
 (.cond (.t q14) (.seq (.reg [q6] fun c r s K => K [ff] s)
 .ret)
 .skip))
 (.seq (.drw [q7, q8, q9] fun c r s K => (fun z m => fad n0 (r q3) fun v0 => dL z m n2 n1 s v0 fun v1 m s => fad n1 (r q3) fun v2 => dL z m n8 n4 s v2 fun v3 m s => fad n0 (r q4) fun v4 => dL z m n32 n16 s v4 fun v5 m s => binK .add v3 v5 fun v6 => xS true I1 v6 c r s fun v7 s => dN z m (nat_lit 256) n0 s n8 (r q3) fun v8 m s => dw3 m (nat_lit 512) (nat_lit 256) s (fun s q => c n79 [v8] s q) fun v9 m s => K [v1, v7, v9] s) s.next mk0)
 (.seq (.seq (.reg [q52] fun c r s K => fad n1 (r q4) fun v0 => ld s v0 fun v1 => fad n4 (r q3) fun v2 => ld s v2 fun v3 => lnS v3 fun v4 => c (nat_lit 258) [(r q7), v1, v4, (r q8)] s fun v5 s => nott v5 fun v6 => mf v6 (r q7) s fun v7 s => jf v6 (fad n2 (r q4)) s fun v8 s => jf v6 (ld s v8) s fun v9 s => jf v6 (fad n2 (r q3)) s fun v10 s => jf v6 (ld s v10) s fun v11 s => mf v6 (r q8) s fun v12 s => jn false v6 (fun j => c (nat_lit 258) [v7, v9, v11, v12] s j) s fun v13 s => jf v6 (nott v13) s fun v14 s => pck v6 tt v14 fun v15 => mf v15 (r q7) s fun v16 s => jf v15 (fad n3 (r q4)) s fun v17 s => jf v15 (ld s v17) s fun v18 s => mf v15 (r q9) s fun v19 s => mf v15 (r q8) s fun v20 s => jn false v15 (fun j => c (nat_lit 258) [v16, v18, v19, v20] s j) s fun v21 s => jf v15 (nott v21) s fun v22 s => pck v15 tt v22 fun v23 => K [v23] s)
 (.cond (.t q52) (.seq (.reg [q6] fun c r s K => K [ff] s)
 .ret)
 .skip))
 (.seq (.seq (.reg [q60] fun c r s K => binK .gtr (r q9) I0 fun v0 => jt v0 (fad n5 (r q4)) s fun v1 s => jt v0 (ld s v1) s fun v2 s => jt v0 (lnS v2) s fun v3 s => jt v0 (binK .lss v3 I2) s fun v4 s => pck v0 v4 ff fun v5 => K [v5] s)
 (.cond (.t q60) (.seq (.reg [q6] fun c r s K => K [ff] s)
 .ret)
 .skip))
 (.seq (.reg [q6] fun c r s K => fad n4 (r q4) fun v0 => ld s v0 fun v1 => lnS v1 fun v2 => fad n3 (r q3) fun v3 => ld s v3 fun v4 => binK .eql v2 v4 fun v5 => mt v5 (r q7) s fun v6 s => jt v5 (fad n4 (r q4)) s fun v7 s => jt v5 (ld s v7) s fun v8 s => jn true v5 (fun j => c (nat_lit 259) [v6, v8] s j) s fun v9 s => pck v5 v9 ff fun v10 => mt v10 (r q7) s fun v11 s => jt v10 (fad n5 (r q4)) s fun v12 s => jt v10 (ld s v12) s fun v13 s => jn true v10 (fun j => c (nat_lit 259) [v11, v13] s j) s fun v14 s => pck v10 v14 ff fun v15 => mt v15 (r q2) s fun v16 s => mt v15 (r q7) s fun v17 s => jn true v15 (fun j => c n85 [v17] s j) s fun v18 s => jt v15 (binK .lss v16 v18) s fun v19 s => pck v15 v19 ff fun v20 => K [v20] s)
 .ret)))))), [(.tmp q6)], [q0, q1, q2], [q10, q11, q12, q13, q15, q16, q17, q18, q19, q20, q21, q22, q23, q24, q25, q26, q27, q28, q29, q30, q31, q32, q33, q34, q35, q36, q37, q38, q39, q40, q41, q42, q43, q44, q45, q46, q47, q48, q49, q50, q51, q53, q54, q55, q56, q57, q58, q59, q61, q62, q63, q64, q65, q66, q67, q68, q69, q70, q71, q72, q73, q74, q75, q76, q77, q78, q79, q80, q81, q82, q83, q84]⟩
/- attestor/compose.elements -/
noncomputable def cf259 : HF := ⟨
(.seq (.reg [q4] fun c r s K => K [ff] s)
 (.seq (.reg [q4] fun c r s K => lnS (r q1) fun v0 => binK .eql v0 I0 fun v1 => mf v1 (r q1) s fun v2 s => jn false v1 (fun j => c n84 [v2] s j) s fun v3 s => mf v1 (r q0) s fun v4 s => jn false v1 (fun j => c n85 [v4] s j) s fun v5 s => jf v1 (binK .lss v3 v5) s fun v6 s => pck v1 tt v6 fun v7 => K [v7] s)
 .ret)), [(.tmp q4)], [q0, q1], [q5, q6, q7, q8, q9, q10, q11, q12, q13, q14]⟩
/- slices.Max[[]uint64,uint64] -/
noncomputable def cf84 : HF := ⟨
(.seq (.reg [q2] fun c r s K => K [U0] s)
 (.seq (.seq (.reg [q7] fun c r s K => lnS (r q0) fun v0 => binK .lss v0 I1 fun v1 => K [v1] s)
 (.cond (.t q7) (.reg [] fun c r s K => h_op4_iface n9 (.c (.sc (.lit (.string ⟨#[115, 108, 105, 99, 101, 115, 46, 77, 97, 120, 58, 32, 101, 109, 112, 116, 121, 32, 108, 105, 115, 116]⟩)))) c r s fun v0 s => h_op4_bad n102 c r s fun _ s => K [] s)
 .skip))
 (.seq (.reg [q3] fun c r s K => ixs n1 (r q0) I0 fun v0 => ld s v0 fun v1 => K [v1] s)
 (.seq (.seq (.reg [q4] fun c r s K => K [I1] s)
 (.block n0 (.loop (.seq (.seq (.reg [q15] fun c r s K => lnS (r q0) fun v0 => binK .lss (r q4) v0 fun v1 => K [v1] s)
 (.cond (.t q15) .skip
 (.exit n0)))
 (.seq (.block n1 (.reg [q3] fun c r s K => ixs n1 (r q0) (r q4) fun v0 => ld s v0 fun v1 => h_op4_minmax true [(.c (r q3)), (.c v1)] c r s fun v2 s => K [v2] s))
 (.reg [q4] fun c r s K => binK .add (r q4) I1 fun v0 => K [v0] s))))))
 (.seq (.reg [q2] fun c r s K => K [(r q3)] s)
 .ret))))), [(.tmp q2)], [q0], [q5, q6, q8, q9, q10, q11, q12, q13, q14, q18, q19, q20, q21, q22, q23, q16, q17, q24]⟩
/- attestor/compose.fits -/
noncomputable def cf258 : HF := ⟨
(.seq (.reg [q4, q7, q8] fun c r s K => bxx s (r q0) fun v0 s => bxx s (r q3) fun v1 s => K [v0, v1, ff] s)
 (.seq (.seq (.reg [q12] fun c r s K => lnS (r q1) fun v0 => binK .neq v0 (r q2) fun v1 => K [v1] s)
 (.cond (.t q12) (.seq (.reg [q8] fun c r s K => K [ff] s)
 .ret)
 .skip))
 (.seq (.reg [q8] fun c r s K => h_op4_makeFunc (nat_lit 360) [(.c (r q7)), (.c (r q4))] c r s fun v0 s => c (nat_lit 242) [(r q1), v0] s fun v1 s => nott v1 fun v2 => K [v2] s)
 .ret))), [(.tmp q8)], [q0, q1, q2, q3], [q9, q10, q11, q13, q14, q15, q16]⟩
/- attestor/compose.fits$1 -/
noncomputable def cf360 : HF := ⟨
(.seq (.reg [q4] fun c r s K => K [ff] s)
 (.seq (.reg [q4] fun c r s K => lnS (r q0) fun v0 => ld s (r q1) fun v1 => binK .neq v0 v1 fun v2 => jf v2 (ld s (r q2)) s fun v3 s => mf v2 (r q0) s fun v4 s => jn false v2 (fun j => c (nat_lit 259) [v3, v4] s j) s fun v5 s => jf v2 (nott v5) s fun v6 s => pck v2 tt v6 fun v7 => K [v7] s)
 .ret)), [(.tmp q4)], [q0, q1, q2], [q5, q6, q7, q8, q9, q10, q11, q12, q13, q14]⟩
/- attestor/argument.Count -/
noncomputable def cf79 : HF := ⟨
(.seq (.reg [q1, q2] fun c r s K => bxx s (r q0) fun v0 s => K [v0, I0] s)
 (.seq (.seq (.reg [q5] fun c r s K => lN s n8 (r q1) fun v0 => c n118 [v0] s fun v1 s => nott v1 fun v2 => K [v2] s)
 (.cond (.t q5) (.seq (.reg [q2] fun c r s K => K [I0] s)
 .ret)
 .skip))
 (.seq (.reg [q2] fun c r s K => fad n6 (r q1) fun v0 => ld s v0 fun v1 => lnS v1 fun v2 => fad n7 (r q1) fun v3 => ld s v3 fun v4 => lnS v4 fun v5 => binK .add v2 v5 fun v6 => K [v6] s)
 .ret))), [(.tmp q2)], [q0], [q3, q4, q6, q7, q8, q9, q10, q11, q12]⟩
/- attestor/compose.Possible -/
noncomputable def cf45 : HF := ⟨
(.seq (.reg [q2, q4] fun c r s K => bxx s (r q0) fun v0 s => K [v0, ff] s)
 (.seq (.drw [q4] fun c r s K => (fun z m => binK .geq (r q1) I1 fun v0 => jnD true v0 (fun jj => jj (r q1) m s) m s fun v1 m s => jnD true v0 (fun jj => binK .leq v1 I5 fun v => jj v m s) m s fun v2 m s => pck v0 v2 ff fun v3 => jnD true v3 (fun jj => dN z m n128 n127 s n8 (r q2) jj) m s fun v4 m s => jnD true v3 (fun jj => dw3 m (nat_lit 256) (nat_lit 255) s (fun s q => c n118 [v4] s q) jj) m s fun v5 m s => pck v3 v5 ff fun v6 => jnD true v6 (fun jj => fad n1 (r q2) fun v => jj v m s) m s fun v7 m s => jnD true v6 (fun jj => dL z m (nat_lit 4096) (nat_lit 4095) s v7 jj) m s fun v8 m s => jnD true v6 (fun jj => jj (r q1) m s) m s fun v9 m s => jnD true v6 (fun jj => binK .add v8 v9 fun v => jj v m s) m s fun v10 m s => jnD true v6 (fun jj => fad n0 (r q2) fun v => jj v m s) m s fun v11 m s => jnD true v6 (fun jj => dL z m (nat_lit 65536) (nat_lit 34815) s v11 jj) m s fun v12 m s => jnD true v6 (fun jj => dw3 m (nat_lit 131072) (nat_lit 100351) s (fun s q => c n119 [v12] s q) jj) m s fun v13 m s => jnD true v6 (fun jj => binK .leq v10 v13 fun v => jj v m s) m s fun v14 m s => pck v6 v14 ff fun v15 => jnD true v15 (fun jj => fad n1 (r q2) fun v => jj v m s) m s fun v16 m s => jnD true v15 (fun jj => dL z m (nat_lit 4194304) (nat_lit 4194303) s v16 jj) m s fun v17 m s => jnD true v15 (fun jj => jj (r q1) m s) m s fun v18 m s => jnD true v15 (fun jj => binK .add v17 v18 fun v => jj v m s) m s fun v19 m s => jnD true v15 (fun jj => xS true U1 v19 c r s fun v s => jj v m s) m s fun v20 m s => jnD true v15 (fun jj => fad n0 (r q2) fun v => jj v m s) m s fun v21 m s => jnD true v15 (fun jj => dL z m (nat_lit 134217728) (nat_lit 69206015) s v21 jj) m s fun v22 m s => jnD true v15 (fun jj => dw3 m (nat_lit 268435456) (nat_lit 203423743) s (fun s q => c n85 [v22] s q) jj) m s fun v23 m s => jnD true v15 (fun jj => binK .sub v23 U1 fun v => jj v m s) m s fun v24 m s => jnD true v15 (fun jj => binK .lss v20 v24 fun v => jj v m s) m s fun v25 m s => pck v15 v25 ff fun v26 => jnD true v26 (fun jj => jj (r q1) m s) m s fun v27 m s => jnD true v26 (fun jj => xS true I1 v27 c r s fun v s => jj v m s) m s fun v28 m s => jnD true v26 (fun jj => dN z m (nat_lit 34359738368) (nat_lit 8589934591) s n8 (r q2) jj) m s fun v29 m s => jnD true v26 (fun jj => dw3 m (nat_lit 68719476736) (nat_lit 42949672959) s (fun s q => c n120 [v29] s q) jj) m s fun v30 m s => jnD true v26 (fun jj => binK .mul I2 v30 fun v => jj v m s) m s fun v31 m s => jnD true v26 (fun jj => binK .geq v28 v31 fun v => jj v m s) m s fun v32 m s => pck v26 v32 ff fun v33 => K [v33] s) s.next mk0)
 .ret)), [(.tmp q4)], [q0, q1], [q5, q6, q7, q8, q9, q10, q11, q12, q13, q14, q15, q16, q17, q18, q19, q20, q21, q22, q23, q24, q25, q26, q27, q28, q29, q30, q31, q32, q33, q34, q35, q36, q37, q38, q39, q40, q41, q42, q43, q44]⟩
/- (*attestor/prover.making).draw -/
noncomputable def cf53 : HF := ⟨
(.seq (.reg [q2] fun c r s K => K [U0] s)
 (.seq (.reg [q3] fun c r s K => K [U0] s)
 (.seq (.reg [q3] fun c r s K => xC (r q0) c r s fun v0 s => fad n18 v0 fun v1 => lN s n5 v1 fun v2 => c n135 [v2] s fun v3 s => xE n0 v3 c r s fun v4 s => xE n1 v3 c r s fun v5 s => xC (r q0) c r s fun v6 s => fad n18 v6 fun v7 => sto s n5 v7 v4 fun s => K [v5] s)
 (.seq (.reg [q2] fun c r s K => K [(r q3)] s)
 .ret)))), [(.tmp q2)], [q0], [q5, q6, q7, q8, q9, q10, q4, q11, q12, q13, q14, q15]⟩
/- (*attestor/prover.making).salt -/
noncomputable def cf51 : HF := ⟨
(.seq (.reg [q3, q4] fun c r s K => bxx s (r q1) fun v0 s => K [v0, ff] s)
 (.seq (.seq (.reg [q16] fun c r s K => xC (r q0) c r s fun v0 s => fad n6 v0 fun v1 => lN s n8 v1 fun v2 => c n79 [v2] s fun v3 s => binK .eql v3 I0 fun v4 => K [v4] s)
 (.cond (.t q16) (.seq (.reg [] fun c r s K => xC (r q0) c r s fun v0 s => fad n18 v0 fun v1 => lN s n5 v1 fun v2 => h_op3_buildS n1 n1 [zu] [(n0, n1, (.c U0))] c r s fun v3 s => c n87 [v2, v3] s fun v4 s => xC (r q0) c r s fun v5 s => fad n18 v5 fun v6 => sto s n5 v6 v4 fun s => K [] s)
 (.seq (.reg [q4] fun c r s K => K [tt] s)
 .ret))
 .skip))
 (.seq (.reg [q5] fun c r s K => xC (r q0) c r s fun v0 s => fad n18 v0 fun v1 => lN s n5 v1 fun v2 => alc s [zi, zu, zu, zu, zu] fun v3 s => sto s n5 v3 v2 fun s => K [v3] s)
 (.seq (.seq (.reg [q36, q37] fun c r s K => xC (r q0) c r s fun v0 s => fad n6 v0 fun v1 => fad n0 v1 fun v2 => ld s v2 fun v3 => c n85 [v3] s fun v4 s => h_op4_minmax false [(.c (u6 (nat_lit 1000))), (.c v4)] c r s fun v5 s => K [v5, U0] s)
 (.block n0 (.loop (.seq (.reg [q38] fun c r s K => binK .lss (r q37) (r q36) fun v0 => K [v0] s)
 (.seq (.cond (.t q38) .skip
 (.exit n0))
 (.seq (.block n1 (.seq (.reg [q6] fun c r s K => K [(r q37)] s)
 (.seq (.reg [] fun c r s K => lN s n5 (r q5) fun v0 => h_op3_buildS n1 n1 [zu] [(n0, n1, (.c (r q6)))] c r s fun v1 s => c n87 [v0, v1] s fun v2 s => xC (r q0) c r s fun v3 s => fad n18 v3 fun v4 => sto s n5 v4 v2 fun s => K [] s)
 (.seq (.reg [q7] fun c r s K => c n53 [(r q0)] s fun v0 s => K [v0] s)
 (.seq (.reg [q8] fun c r s K => c n53 [(r q0)] s fun v0 s => K [v0] s)
 (.seq (.drw [q9, q10] fun c r s K => (fun z m => xC (r q0) c r s fun v0 s => fad n6 v0 fun v1 => dN z m n8 n7 s n8 v1 fun v2 m s => dN z m n16 n0 s n2 (r q3) fun v3 m s => dw3 m n128 n127 s (fun s q => c n130 [v2, v3, (r q7), (r q8)] s q) fun v4 m s => xE n0 v4 c r s fun v5 s => xE n1 v4 c r s fun v6 s => K [v5, v6] s) s.next mk0)
 (.seq (.reg [q63] fun c r s K => binK .eql (r q10) I0 fun v0 => K [v0] s)
 (.cond (.t q63) (.seq (.reg [] fun c r s K => xC (r q0) c r s fun v0 s => fad n23 v0 fun v1 => fad n3 v1 fun v2 => sto s n1 v2 (r q6) fun s => K [] s)
 (.seq (.reg [] fun c r s K => h_op3_buildS n2 n1 [zu, zu] [(n0, n1, (.c (r q7))), (n1, n1, (.c (r q8)))] c r s fun v0 s => xC (r q0) c r s fun v1 s => fad n0 v1 fun v2 => fad n5 v2 fun v3 => sto s n1 v3 v0 fun s => K [] s)
 (.seq (.drw [] fun c r s K => (fun z m => xC (r q0) c r s fun v0 s => fad n6 v0 fun v1 => dN z m n16 n14 s n8 v1 fun v2 m s => xC (r q0) c r s fun v3 s => fad n14 v3 fun v4 => fad n0 v4 fun v5 => dL z m (nat_lit 512) (nat_lit 480) s v5 fun v6 m s => dw3 m (nat_lit 2048) (nat_lit 2046) s (fun s q => c n40 [v2, v6, (r q9)] s q) fun v7 m s => xC (r q0) c r s fun v8 s => fad n0 v8 fun v9 => fad n3 v9 fun v10 => dS z m (nat_lit 32768) (nat_lit 32767) s n1 v10 v7 fun _ m s => K [] s) s.next mk0)
 (.seq (.reg [q4] fun c r s K => K [tt] s)
 .ret))))
 .skip))))))))
 (.reg [q37] fun c r s K => binK .add (r q37) U1 fun v0 => K [v0] s)))))))
 (.seq (.reg [q4] fun c r s K => K [ff] s)
 .ret))))), [(.tmp q4)], [q0, q1], [q11, q12, q13, q14, q15, q17, q18, q19, q20, q21, q22, q23, q24, q25, q26, q27, q28, q29, q30, q31, q32, q33, q34, q35, q39, q40, q41, q42, q43, q44, q45, q46, q47, q48, q49, q50, q52, q53, q54, q55, q56, q57, q58, q59, q51, q60, q61, q62, q64, q65, q66, q67, q68, q69, q70, q71, q72, q73, q74, q75, q76, q77, q78, q79, q80, q81, q82, q83, q84, q85, q86, q87, q88, q89, q90, q91]⟩
/- attestor/argument.Columns -/
noncomputable def cf130 : HF := ⟨
(.seq (.reg [q4, q5, q8, q9] fun c r s K => bxx s (r q0) fun v0 s => bxx s (r q1) fun v1 s => K [v0, v1, (.sc zn), I0] s)
 (.seq (.reg [q10] fun c r s K => fad n0 (r q4) fun v0 => ld s v0 fun v1 => alc s [zi] fun v2 s => sto s n1 v2 v1 fun s => K [v2] s)
 (.seq (.seq (.reg [q38] fun c r s K => lN s n8 (r q4) fun v0 => lN s n2 (r q5) fun v1 => c n48 [v0, v1] s fun v2 s => nott v2 fun v3 => mf v3 (r q2) s fun v4 s => mf v3 (r q3) s fun v5 s => jn false v3 (fun j => h_op4_minmax true [(.c v4), (.c v5)] c r s j) s fun v6 s => jf v3 (ld s (r q10)) s fun v7 s => jn false v3 (fun j => c n85 [v7] s j) s fun v8 s => jf v3 (binK .geq v6 v8) s fun v9 s => pck v3 tt v9 fun v10 => K [v10] s)
 (.cond (.t q38) (.seq (.reg [q8, q9] fun c r s K => K [(.sc zn), I1] s)
 .ret)
 .skip))
 (.seq (.reg [q11] fun c r s K => fad n1 (r q4) fun v0 => ld s v0 fun v1 => xS true I1 v1 c r s fun v2 s => xM n5 n72 [zi, zn, zn, zu, zu] v2 v2 c r s fun v3 s => K [v3] s)
 (.seq (.seq (.reg [q44, q45] fun c r s K => lnS (r q11) fun v0 => K [v0, I0] s)
 (.block n0 (.loop (.seq (.reg [q46] fun c r s K => binK .lss (r q45) (r q44) fun v0 => K [v0] s)
 (.seq (.cond (.t q46) .skip
 (.exit n0))
 (.seq (.block n1 (.seq (.reg [q12] fun c r s K => K [(r q45)] s)
 (.drw [] fun c r s K => (fun z m => dL z m n4 n0 s (r q10) fun v0 m s => fad n1 (r q5) fun v1 => dL z m n16 n8 s v1 fun v2 m s => dw3 m n64 n56 s (fun s q => c (nat_lit 249) [v2, (r q12)] s q) fun v3 m s => fad n4 (r q4) fun v4 => dL z m (nat_lit 256) n128 s v4 fun v5 m s => dw3 m (nat_lit 1024) (nat_lit 1016) s (fun s q => c (nat_lit 249) [v5, (r q12)] s q) fun v6 m s => h_op3_build [zi, zn, zn, zu, zu] [(n0, n1, (.c v0)), (n1, n1, (.c v3)), (n2, n1, (.c v6)), (n3, n1, (.c (r q2))), (n4, n1, (.c (r q3)))] c r s fun v7 s => ixs n5 (r q11) (r q12) fun v8 => dS z m (nat_lit 32768) (nat_lit 32767) s n5 v8 v7 fun _ m s => K [] s) s.next mk0)))
 (.reg [q45] fun c r s K => binK .add (r q45) I1 fun v0 => K [v0] s)))))))
 (.seq (.reg [q13] fun c r s K => K [(.sc zn)] s)
 (.seq (.seq (.reg [q65, q66, q67] fun c r s K => fad n6 (r q4) fun v0 => ld s v0 fun v1 => lnS v1 fun v2 => K [v1, v2, I0] s)
 (.block n2 (.loop (.seq (.reg [q68] fun c r s K => binK .lss (r q67) (r q66) fun v0 => K [v0] s)
 (.seq (.cond (.t q68) .skip
 (.exit n2))
 (.seq (.block n3 (.seq (.reg [q15] fun c r s K => ixs n2 (r q65) (r q67) fun v0 => lN s n2 v0 fun v1 => alc s [zn, zn] fun v2 s => sto s n2 v2 v1 fun s => K [v2] s)
 (.seq (.reg [q16, q17] fun c r s K => alc s [zn] fun v0 s => alc s [zn] fun v1 s => K [v0, v1] s)
 (.seq (.seq (.reg [q71, q72, q73] fun c r s K => lnS (r q11) fun v0 => K [(r q11), v0, I0] s)
 (.block n4 (.loop (.seq (.reg [q74] fun c r s K => binK .lss (r q73) (r q72) fun v0 => K [v0] s)
 (.seq (.cond (.t q74) .skip
 (.exit n4))
 (.seq (.block n5 (.seq (.reg [q19] fun c r s K => ixs n5 (r q71) (r q73) fun v0 => lN s n5 v0 fun v1 => alc s [zi, zn, zn, zu, zu] fun v2 s => sto s n5 v2 v1 fun s => K [v2] s)
 (.seq (.drw [] fun c r s K => (fun z m => dL z m n1 n0 s (r q16) fun v0 m s => dN z m n2 n0 s n5 (r q19) fun v1 m s => fad n0 (r q15) fun v2 => dL z m n8 n4 s v2 fun v3 m s => dw3 m n16 n14 s (fun s q => c (nat_lit 250) [v1, v3] s q) fun v4 m s => dw1 m n32 (fun q => h_op3_buildS n1 n1 [zu] [(n0, n1, (.c v4))] c r s q) fun v5 m s => dw5 z m n64 n63 s (.more (.more (.append n1 n8 (.c v0) (.c v5)))) r (fun s q => xA n1 n8 v0 v5 c r s q) fun v6 m s => dS z m n128 n127 s n1 (r q16) v6 fun _ m s => K [] s) s.next mk0)
 (.drw [] fun c r s K => (fun z m => dL z m n1 n0 s (r q17) fun v0 m s => dN z m n2 n0 s n5 (r q19) fun v1 m s => fad n1 (r q15) fun v2 => dL z m n8 n4 s v2 fun v3 m s => dw3 m n16 n14 s (fun s q => c (nat_lit 250) [v1, v3] s q) fun v4 m s => dw1 m n32 (fun q => h_op3_buildS n1 n1 [zu] [(n0, n1, (.c v4))] c r s q) fun v5 m s => dw5 z m n64 n63 s (.more (.more (.append n1 n8 (.c v0) (.c v5)))) r (fun s q => xA n1 n8 v0 v5 c r s q) fun v6 m s => dS z m n128 n127 s n1 (r q17) v6 fun _ m s => K [] s) s.next mk0))))
 (.reg [q73] fun c r s K => binK .add (r q73) I1 fun v0 => K [v0] s)))))))
 (.seq (.seq (.reg [q93] fun c r s K => ld s (r q17) fun v0 => c (nat_lit 251) [v0, U0] s fun v1 s => K [v1] s)
 (.cond (.t q93) (.seq (.reg [q8, q9] fun c r s K => K [(.sc zn), I7] s)
 .ret)
 .skip))
 (.seq (.reg [] fun c r s K => ld s (r q10) fun v0 => ld s (r q17) fun v1 => c (nat_lit 252) [v0, v1] s fun v2 s => sto s n1 (r q17) v2 fun s => K [] s)
 (.reg [q13] fun c r s K => lnS (r q11) fun v0 => h_op4_makeFunc (nat_lit 254) [(.c (r q10)), (.c (r q16)), (.c (r q17))] c r s fun v1 s => c (nat_lit 253) [v0, U1, v1] s fun v2 s => h_op3_buildS n1 n1 [zn] [(n0, n1, (.c v2))] c r s fun v3 s => xA n1 n24 (r q13) v3 c r s fun v4 s => K [v4] s)))))))
 (.reg [q67] fun c r s K => binK .add (r q67) I1 fun v0 => K [v0] s)))))))
 (.seq (.seq (.reg [q106, q107, q108] fun c r s K => fad n7 (r q4) fun v0 => ld s v0 fun v1 => lnS v1 fun v2 => K [v1, v2, I0] s)
 (.block n6 (.loop (.seq (.reg [q109] fun c r s K => binK .lss (r q108) (r q107) fun v0 => K [v0] s)
 (.seq (.cond (.t q109) .skip
 (.exit n6))
 (.seq (.block n7 (.seq (.reg [q21] fun c r s K => ixs n4 (r q106) (r q108) fun v0 => lN s n4 v0 fun v1 => alc s [zn, zn, zb, zi] fun v2 s => sto s n4 v2 v1 fun s => K [v2] s)
 (.seq (.reg [q22] fun c r s K => alc s [zn] fun v0 s => K [v0] s)
 (.seq (.seq (.reg [q112, q113, q114] fun c r s K => lnS (r q11) fun v0 => K [(r q11), v0, I0] s)
 (.block n8 (.loop (.seq (.reg [q115] fun c r s K => binK .lss (r q114) (r q113) fun v0 => K [v0] s)
 (.seq (.cond (.t q115) .skip
 (.exit n8))
 (.seq (.block n9 (.seq (.reg [q24] fun c r s K => ixs n5 (r q112) (r q114) fun v0 => lN s n5 v0 fun v1 => alc s [zi, zn, zn, zu, zu] fun v2 s => sto s n5 v2 v1 fun s => K [v2] s)
 (.drw [] fun c r s K => (fun z m => dL z m n1 n0 s (r q22) fun v0 m s => dN z m n2 n0 s n5 (r q24) fun v1 m s => fad n0 (r q21) fun v2 => dL z m n8 n4 s v2 fun v3 m s => dw3 m n16 n14 s (fun s q => c (nat_lit 255) [v1, v3] s q) fun v4 m s => dN z m n32 n0 s n5 (r q24) fun v5 m s => fad n1 (r q21) fun v6 => dL z m n128 n64 s v6 fun v7 m s => dw3 m (nat_lit 256) (nat_lit 254) s (fun s q => c (nat_lit 255) [v5, v7] s q) fun v8 m s => dw1 m (nat_lit 512) (fun q => h_op3_buildS n2 n1 [zu, zu] [(n0, n1, (.c v4)), (n1, n1, (.c v8))] c r s q) fun v9 m s => dw5 z m (nat_lit 1024) (nat_lit 1023) s (.more (.more (.append n1 n8 (.c v0) (.c v9)))) r (fun s q => xA n1 n8 v0 v9 c r s q) fun v10 m s => dS z m (nat_lit 2048) (nat_lit 2047) s n1 (r q22) v10 fun _ m s => K [] s) s.next mk0)))
 (.reg [q114] fun c r s K => binK .add (r q114) I1 fun v0 => K [v0] s)))))))
 (.seq (.seq (.reg [q131] fun c r s K => ld s (r q22) fun v0 => c (nat_lit 251) [v0, U0] s fun v1 s => K [v1] s)
 (.cond (.t q131) (.seq (.reg [q8, q9] fun c r s K => K [(.sc zn), I7] s)
 .ret)
 .skip))
 (.seq (.reg [] fun c r s K => ld s (r q10) fun v0 => ld s (r q22) fun v1 => c (nat_lit 252) [v0, v1] s fun v2 s => sto s n1 (r q22) v2 fun s => K [] s)
 (.reg [q13] fun c r s K => lnS (r q11) fun v0 => h_op4_makeFunc (nat_lit 256) [(.c (r q10)), (.c (r q5)), (.c (r q21)), (.c (r q22))] c r s fun v1 s => c (nat_lit 253) [v0, U0, v1] s fun v2 s => h_op3_buildS n1 n1 [zn] [(n0, n1, (.c v2))] c r s fun v3 s => xA n1 n24 (r q13) v3 c r s fun v4 s => K [v4] s)))))))
 (.reg [q108] fun c r s K => binK .add (r q108) I1 fun v0 => K [v0] s)))))))
 (.seq (.reg [q8, q9] fun c r s K => K [(r q13), I0] s)
 .ret))))))))), [(.tmp q8), (.tmp q9)], [q0, q1, q2, q3], [q25, q26, q27, q28, q29, q30, q31, q32, q33, q34, q35, q36, q37, q39, q40, q41, q42, q43, q47, q48, q49, q50, q51, q52, q53, q54, q55, q56, q57, q58, q59, q60, q61, q62, q63, q64, q69, q70, q75, q76, q77, q78, q79, q80, q81, q82, q83, q84, q85, q86, q87, q88, q89, q90, q91, q92, q94, q95, q96, q97, q98, q99, q100, q101, q102, q103, q104, q105, q110, q111, q116, q117, q118, q119, q120, q121, q122, q123, q124, q125, q126, q127, q128, q129, q130, q132, q133, q134, q135, q136, q137, q138, q139, q140, q141, q142, q143]⟩
/- attestor/argument.Columns$2 -/
noncomputable def cf256 : HF := ⟨
(.seq (.reg [q8] fun c r s K => K [U0] s)
 (.seq (.drw [q9] fun c r s K => (fun z m => dL z m n1 n0 s (r q2) fun v0 m s => fad n1 (r q3) fun v1 => dL z m n4 n2 s v1 fun v2 m s => fad n2 (r q4) fun v3 => fad n1 v3 fun v4 => dL z m n32 n24 s v4 fun v5 m s => ixs n1 v2 v5 fun v6 => dL z m n128 n126 s v6 fun v7 m s => ixs n1 v7 (r q1) fun v8 => dL z m (nat_lit 1024) (nat_lit 1022) s v8 fun v9 m s => dL z m (nat_lit 2048) n0 s (r q5) fun v10 m s => binK .mul I2 (r q1) fun v11 => binK .add v11 I1 fun v12 => ixs n1 v10 v12 fun v13 => dL z m (nat_lit 65536) (nat_lit 63488) s v13 fun v14 m s => dw3 m (nat_lit 131072) (nat_lit 131071) s (fun s q => c n138 [v0, v9, v14] s q) fun v15 m s => K [v15] s) s.next mk0)
 (.seq (.drw [q8] fun c r s K => (fun z m => dL z m n1 n0 s (r q2) fun v0 m s => dL z m n2 n0 s (r q2) fun v1 m s => dL z m n8 n0 s (r q5) fun v2 m s => binK .mul I2 (r q1) fun v3 => ixs n1 v2 v3 fun v4 => dL z m n128 n120 s v4 fun v5 m s => dw3 m (nat_lit 256) (nat_lit 254) s (fun s q => c n137 [v1, (r q0), v5] s q) fun v6 m s => dw1 m (nat_lit 1024) (fun q => h_op3_buildS n2 n1 [zu, zu] [(n0, n1, (.c v6)), (n1, n1, (.c (r q9)))] c r s q) fun v7 m s => dw3 m (nat_lit 2048) (nat_lit 2047) s (fun s q => c (nat_lit 257) [v0, v7] s q) fun v8 m s => K [v8] s) s.next mk0)
 .ret))), [(.tmp q8)], [q0, q1, q2, q3, q4, q5], [q10, q11, q12, q13, q14, q15, q16, q17, q18, q19, q20, q21, q22, q23, q24, q25, q26, q27, q28, q29, q30, q31, q32, q33, q34, q35, q36, q37, q38, q39]⟩
/- attestor/argument.less -/
noncomputable def cf257 : HF := ⟨
(.seq (.reg [q4] fun c r s K => K [U0] s)
 (.seq (.drw [q4] fun c r s K => (fun z m => ixs n1 (r q1) I0 fun v0 => dL z m n8 n6 s v0 fun v1 m s => h_op3_sliceS n1 (.c (r q1)) (some (.c I1)) none none c r s fun v2 s => dw3 m n64 n63 s (fun s q => c (nat_lit 359) [(r q0), v1, v2] s q) fun v3 m s => K [v3] s) s.next mk0)
 .ret)), [(.tmp q4)], [q0, q1], [q5, q6, q7, q8, q9, q10, q11]⟩
/- attestor/argument.column -/
noncomputable def cf253 : HF := ⟨
(.seq (.reg [q6] fun c r s K => K [(.sc zn)] s)
 (.seq (.reg [q7] fun c r s K => xM n1 n8 [zu] (r q0) (r q0) c r s fun v0 s => K [v0] s)
 (.seq (.seq (.reg [q12, q13] fun c r s K => lnS (r q7) fun v0 => K [v0, I0] s)
 (.block n0 (.loop (.seq (.reg [q14] fun c r s K => binK .lss (r q13) (r q12) fun v0 => K [v0] s)
 (.seq (.cond (.t q14) .skip
 (.exit n0))
 (.seq (.block n1 (.seq (.reg [q8] fun c r s K => K [(r q13)] s)
 (.seq (.reg [] fun c r s K => ixs n1 (r q7) (r q8) fun v0 => sto s n1 v0 (r q1) fun s => K [] s)
 (.reg [q1] fun c r s K => h_op4_callV (.c (r q2)) [(.c (r q1)), (.c (r q8))] c r s fun v0 s => K [v0] s))))
 (.reg [q13] fun c r s K => binK .add (r q13) I1 fun v0 => K [v0] s)))))))
 (.seq (.reg [q6] fun c r s K => K [(r q7)] s)
 .ret)))), [(.tmp q6)], [q0, q1, q2], [q9, q10, q11, q15, q16, q17, q18, q19, q20, q21, q22, q23, q24, q25]⟩
/- attestor/argument.Columns$1 -/
noncomputable def cf254 : HF := ⟨
(.seq (.reg [q7] fun c r s K => K [U0] s)
 (.seq (.drw [q7] fun c r s K => (fun z m => dL z m n1 n0 s (r q2) fun v0 m s => dL z m n4 n0 s (r q2) fun v1 m s => dL z m n8 n0 s (r q3) fun v2 m s => ixs n1 v2 (r q1) fun v3 => dL z m n64 n56 s v3 fun v4 m s => dL z m n128 n0 s (r q4) fun v5 m s => ixs n1 v5 (r q1) fun v6 => dL z m (nat_lit 1024) (nat_lit 896) s v6 fun v7 m s => dw3 m (nat_lit 2048) (nat_lit 2044) s (fun s q => c n138 [v1, v4, v7] s q) fun v8 m s => dw3 m (nat_lit 4096) (nat_lit 4095) s (fun s q => c n138 [v0, (r q0), v8] s q) fun v9 m s => K [v9] s) s.next mk0)
 .ret)), [(.tmp q7)], [q0, q1, q2, q3, q4], [q8, q9, q10, q11, q12, q13, q14, q15, q16, q17, q18, q19, q20]⟩
/- slices.Contains[[]uint64,uint64] -/
noncomputable def cf251 : HF := ⟨
(.seq (.reg [q4] fun c r s K => K [ff] s)
 (.seq (.reg [q4] fun c r s K => c (nat_lit 357) [(r q0), (r q1)] s fun v0 s => binK .geq v0 I0 fun v1 => K [v1] s)
 .ret)), [(.tmp q4)], [q0, q1], [q5, q6, q7, q8]⟩
/- slices.Index[[]uint64,uint64] -/
noncomputable def cf357 : HF := ⟨
(.seq (.reg [q4] fun c r s K => K [I0] s)
 (.seq (.seq (.reg [q7, q8] fun c r s K => lnS (r q0) fun v0 => K [v0, I0] s)
 (.block n0 (.loop (.seq (.reg [q9] fun c r s K => binK .lss (r q8) (r q7) fun v0 => K [v0] s)
 (.seq (.cond (.t q9) .skip
 (.exit n0))
 (.seq (.block n1 (.seq (.reg [q5] fun c r s K => K [(r q8)] s)
 (.seq (.reg [q16] fun c r s K => ixs n1 (r q0) (r q5) fun v0 => ld s v0 fun v1 => binK .eql (r q1) v1 fun v2 => K [v2] s)
 (.cond (.t q16) (.seq (.reg [q4] fun c r s K => K [(r q5)] s)
 .ret)
 .skip))))
 (.reg [q8] fun c r s K => binK .add (r q8) I1 fun v0 => K [v0] s)))))))
 (.seq (.reg [q4] fun c r s K => (fun v0 => K [v0] s) (.sc (.int .i64 (.negSucc n0))))
 .ret))), [(.tmp q4)], [q0, q1], [q6, q10, q11, q12, q13, q14, q15, q17, q18]⟩
/- attestor/argument.at -/
noncomputable def cf249 : HF := ⟨
(.seq (.reg [q4] fun c r s K => K [(.sc zn)] s)
 (.seq (.reg [q5] fun c r s K => lnS (r q0) fun v0 => xM n1 n8 [zu] v0 v0 c r s fun v1 s => K [v1] s)
 (.seq (.seq (.reg [q11, q12] fun c r s K => lnS (r q0) fun v0 => K [v0, I0] s)
 (.block n0 (.loop (.seq (.reg [q13] fun c r s K => binK .lss (r q12) (r q11) fun v0 => K [v0] s)
 (.seq (.cond (.t q13) .skip
 (.exit n0))
 (.seq (.block n1 (.seq (.reg [q6] fun c r s K => K [(r q12)] s)
 (.reg [] fun c r s K => ixs n1 (r q0) (r q6) fun v0 => ld s v0 fun v1 => ixs n1 v1 (r q1) fun v2 => ld s v2 fun v3 => ixs n1 (r q5) (r q6) fun v4 => sto s n1 v4 v3 fun s => K [] s)))
 (.reg [q12] fun c r s K => binK .add (r q12) I1 fun v0 => K [v0] s)))))))
 (.seq (.reg [q4] fun c r s K => K [(r q5)] s)
 .ret)))), [(.tmp q4)], [q0, q1], [q7, q8, q9, q10, q14, q15, q16, q17, q18, q19, q20, q21, q22, q23, q24, q25, q26]⟩
/- (*attestor/prover.making).commit -/
noncomputable def cf50 : HF := ⟨
(.seq (.reg [q4, q5] fun c r s K => alc s [zn, zi, zi, zi, zn] fun v0 s => K [v0, (.sc zn)] s)
 (.seq (.drw [q6] fun c r s K => (fun z m => xC (r q0) c r s fun v0 s => fad n6 v0 fun v1 => dN z m n8 n7 s n8 v1 fun v2 m s => xC (r q0) c r s fun v3 s => fad n14 v3 fun v4 => dN z m n128 n112 s n4 v4 fun v5 m s => dw3 m (nat_lit 512) (nat_lit 511) s (fun s q => c n39 [v2, v5, (r q1)] s q) fun v6 m s => dw1 m (nat_lit 1024) (fun q => alc s [zn, zi, zi, zi, zn] q) fun v7 m s => dS z m (nat_lit 2048) (nat_lit 2047) s n5 v7 v6 fun _ m s => K [v7] s) s.next mk0)
 (.seq (.drw [] fun c r s K => (fun z m => xC (r q0) c r s fun v0 s => fad n18 v0 fun v1 => dN z m n16 n14 s n5 v1 fun v2 m s => dN z m n32 n0 s n5 (r q6) fun v3 m s => dw3 m n64 n32 s (fun s q => c n41 [v3] s q) fun v4 m s => dw3 m n128 n126 s (fun s q => c n88 [v2, v4] s q) fun v5 m s => xC (r q0) c r s fun v6 s => fad n18 v6 fun v7 => dS z m (nat_lit 1024) (nat_lit 1023) s n5 v7 v5 fun _ m s => K [] s) s.next mk0)
 (.seq (.drw [q5] fun c r s K => (fun z m => dN z m n1 n0 s n5 (r q6) fun v0 m s => dN z m n2 n0 s n5 (r q6) fun v1 m s => dw3 m n4 n2 s (fun s q => c n41 [v1] s q) fun v2 m s => dS z m n8 n7 s n5 (r q4) v0 fun _ m s => K [v2] s) s.next mk0)
 .ret)))), [(.cellN n5 q4), (.tmp q5)], [q0, q1], [q7, q8, q9, q10, q11, q12, q13, q14, q15, q16, q17, q18, q19, q20, q21, q22, q23, q24, q25, q26, q27, q28, q29]⟩
/- (attestor/prover.orchard).top -/
noncomputable def cf41 : HF := ⟨
(.seq (.reg [q1, q2] fun c r s K => bxx s (r q0) fun v0 s => K [v0, (.sc zn)] s)
 (.seq (.seq (.reg [q6] fun c r s K => fad n0 (r q1) fun v0 => ld s v0 fun v1 => lnS v1 fun v2 => binK .eql v2 I0 fun v3 => K [v3] s)
 (.cond (.t q6) (.seq (.reg [q2] fun c r s K => K [(.sc zn)] s)
 .ret)
 .skip))
 (.seq (.reg [q2] fun c r s K => fad n1 (r q1) fun v0 => lN s n4 v0 fun v1 => c n114 [v1] s fun v2 s => K [v2] s)
 .ret))), [(.tmp q2)], [q0], [q3, q4, q5, q7, q8, q9]⟩
/- attestor/prover.plant -/
noncomputable def cf39 : HF := ⟨
(.seq (.reg [q3, q4, q6] fun c r s K => bxx s (r q0) fun v0 s => bxx s (r q1) fun v1 s => alc s [zn, zi, zi, zi, zn] fun v2 s => K [v0, v1, v2] s)
 (.seq (.seq (.reg [q13] fun c r s K => lnS (r q2) fun v0 => binK .eql v0 I0 fun v1 => K [v1] s)
 (.cond (.t q13) (.seq (.reg [] fun c r s K => h_op3_build [zn, zi, zi, zi, zn] [] c r s fun v0 s => sto s n5 (r q6) v0 fun s => K [] s)
 .ret)
 .skip))
 (.seq (.reg [q7] fun c r s K => fad n1 (r q3) fun v0 => ld s v0 fun v1 => fad n0 (r q4) fun v2 => ld s v2 fun v3 => binK .add v1 v3 fun v4 => xS true I1 v4 c r s fun v5 s => xM n2 n16 [zu, zu] v5 v5 c r s fun v6 s => K [v6] s)
 (.seq (.seq (.reg [q23, q24] fun c r s K => lnS (r q7) fun v0 => K [v0, I0] s)
 (.block n0 (.loop (.seq (.reg [q25] fun c r s K => binK .lss (r q24) (r q23) fun v0 => K [v0] s)
 (.seq (.cond (.t q25) .skip
 (.exit n0))
 (.seq (.block n1 (.seq (.reg [q8] fun c r s K => K [(r q24)] s)
 (.drw [] fun c r s K => (fun z m => fad n0 (r q3) fun v0 => dL z m n8 n4 s v0 fun v1 m s => dw3 m n64 n48 s (fun s q => c n110 [(r q2), (r q8)] s q) fun v2 m s => dw3 m n128 n124 s (fun s q => c n89 [v1, v2] s q) fun v3 m s => ixs n2 (r q7) (r q8) fun v4 => dS z m (nat_lit 512) (nat_lit 511) s n2 v4 v3 fun _ m s => K [] s) s.next mk0)))
 (.reg [q24] fun c r s K => binK .add (r q24) I1 fun v0 => K [v0] s)))))))
 (.seq (.reg [q9] fun c r s K => fad n0 (r q3) fun v0 => ld s v0 fun v1 => fad n1 (r q4) fun v2 => ld s v2 fun v3 => fad n1 (r q3) fun v4 => ld s v4 fun v5 => fad n0 (r q4) fun v6 => ld s v6 fun v7 => binK .add v5 v7 fun v8 => h_op4_minmax false [(.c v3), (.c v8)] c r s fun v9 s => c n111 [v1, (r q7), v9] s fun v10 s => xE n0 v10 c r s fun v11 s => xE n1 v10 c r s fun v12 s => alc s [zi, zi, zi, zn] fun v13 s => sto s n4 v13 v11 fun s => K [v13] s)
 (.seq (.reg [] fun c r s K => lN s n4 (r q9) fun v0 => h_op3_build [zn, zi, zi, zi, zn] [(n0, n1, (.c (r q2))), (n1, n4, (.c v0))] c r s fun v1 s => sto s n5 (r q6) v1 fun s => K [] s)
 .ret)))))), [(.cellN n5 q6)], [q0, q1, q2], [q11, q12, q14, q15, q16, q17, q18, q19, q20, q21, q22, q26, q27, q28, q29, q30, q31, q32, q33, q34, q35, q36, q38, q39, q40, q41, q42, q43, q44, q45, q46, q47, q48, q49, q37, q50, q51, q10, q52, q53, q54]⟩
/- attestor/prover.extend -/
noncomputable def cf40 : HF := ⟨
(.seq (.reg [q3, q6] fun c r s K => bxx s (r q0) fun v0 s => K [v0, (.sc zn)] s)
 (.seq (.reg [q7] fun c r s K => K [(.sc zn)] s)
 (.seq (.seq (.reg [q14, q15, q16] fun c r s K => lnS (r q2) fun v0 => K [(r q2), v0, I0] s)
 (.block n0 (.loop (.seq (.reg [q17] fun c r s K => binK .lss (r q16) (r q15) fun v0 => K [v0] s)
 (.seq (.cond (.t q17) .skip
 (.exit n0))
 (.seq (.block n1 (.seq (.reg [q9] fun c r s K => ixs n1 (r q14) (r q16) fun v0 => ld s v0 fun v1 => K [v1] s)
 (.seq (.reg [q10] fun c r s K => fad n0 (r q3) fun v0 => ld s v0 fun v1 => c n112 [v1, U1, (r q9)] s fun v2 s => xE n0 v2 c r s fun v3 s => xE n1 v2 c r s fun v4 s => K [v3] s)
 (.seq (.drw [q12] fun c r s K => (fun z m => fad n0 (r q3) fun v0 => dL z m n2 n1 s v0 fun v1 m s => fad n1 (r q3) fun v2 => dL z m n8 n4 s v2 fun v3 m s => binK .add v3 (r q1) fun v4 => fad n0 (r q3) fun v5 => dL z m n128 n64 s v5 fun v6 m s => dw3 m (nat_lit 256) (nat_lit 192) s (fun s q => c n95 [v6] s q) fun v7 m s => dw3 m (nat_lit 1024) (nat_lit 1023) s (fun s q => c n113 [v1, v4, v7, (r q10)] s q) fun v8 m s => xE n0 v8 c r s fun v9 s => xE n1 v8 c r s fun v10 s => K [v9] s) s.next mk0)
 (.reg [q7] fun c r s K => h_op3_buildS n1 n1 [zn] [(n0, n1, (.c (r q12)))] c r s fun v0 s => xA n1 n24 (r q7) v0 c r s fun v1 s => K [v1] s)))))
 (.reg [q16] fun c r s K => binK .add (r q16) I1 fun v0 => K [v0] s)))))))
 (.seq (.reg [q6] fun c r s K => K [(r q7)] s)
 .ret)))), [(.tmp q6)], [q0, q1, q2], [q18, q19, q21, q22, q23, q24, q20, q25, q26, q11, q28, q29, q30, q31, q32, q33, q34, q35, q36, q37, q38, q27, q39, q40, q13, q41, q42, q43, q44, q45, q46]⟩
/- attestor/prover.Begin -/
noncomputable def cf24 : HF := ⟨
(.seq (.reg [q2, q4, q5] fun c r s K => bxx s (r q0) fun v0 s => alc s [zi, zu, zu, zu, zu] fun v1 s => K [v0, v1, I0] s)
 (.seq (.reg [q6, q7] fun c r s K => lN s n14 (r q2) fun v0 => c n78 [v0] s fun v1 s => xE n0 v1 c r s fun v2 s => xE n1 v1 c r s fun v3 s => alc s [zi, zi, zi, zi, zn, zn, zn, zn] fun v4 s => sto s n8 v4 v2 fun s => K [v4, v3] s)
 (.seq (.seq (.drw [q38] fun c r s K => (fun z m => nott (r q7) fun v0 => jnD false v0 (fun jj => jj (r q1) m s) m s fun v1 m s => jnD false v0 (fun jj => lnS v1 fun v => jj v m s) m s fun v2 m s => jnD false v0 (fun jj => fad n3 (r q6) fun v => jj v m s) m s fun v3 m s => jnD false v0 (fun jj => dL z m n64 n39 s v3 jj) m s fun v4 m s => jnD false v0 (fun jj => binK .neq v2 v4 fun v => jj v m s) m s fun v5 m s => pck v0 tt v5 fun v6 => jnD false v6 (fun jj => jj (r q1) m s) m s fun v7 m s => jnD false v6 (fun jj => lnS v7 fun v => jj v m s) m s fun v8 m s => jnD false v6 (fun jj => binK .gtr v8 I0 fun v => jj v m s) m s fun v9 m s => jnD false v6 (fun jj => jj v9 m s) m s fun v10 m s => jnD true v10 (fun jj => jj (r q1) m s) m s fun v11 m s => jnD true v10 (fun jj => dw3 m (nat_lit 32768) (nat_lit 32767) s (fun s q => c n84 [v11] s q) jj) m s fun v12 m s => jnD true v10 (fun jj => fad n0 (r q6) fun v => jj v m s) m s fun v13 m s => jnD true v10 (fun jj => dL z m (nat_lit 131072) (nat_lit 81919) s v13 jj) m s fun v14 m s => jnD true v10 (fun jj => dw3 m (nat_lit 262144) (nat_lit 262143) s (fun s q => c n85 [v14] s q) jj) m s fun v15 m s => jnD true v10 (fun jj => binK .geq v12 v15 fun v => jj v m s) m s fun v16 m s => jnD false v6 (fun jj => pck v10 v16 ff fun v => jj v m s) m s fun v17 m s => pck v6 tt v17 fun v18 => K [v18] s) s.next mk0)
 (.cond (.t q38) (.seq (.reg [q5] fun c r s K => h_op3_build [zi, zu, zu, zu, zu] [] c r s fun v0 s => sto s n5 (r q4) v0 fun s => K [I1] s)
 .ret)
 .skip))
 (.seq (.reg [q8] fun c r s K => fad n0 (r q6) fun v0 => ld s v0 fun v1 => c n86 [v1] s fun v2 s => alc s [zi, zu, zu, zu, zu] fun v3 s => sto s n5 v3 v2 fun s => K [v3] s)
 (.seq (.seq (.reg [q59, q60, q61] fun c r s K => fad n0 (r q6) fun v0 => ld s v0 fun v1 => fad n1 (r q6) fun v2 => ld s v2 fun v3 => fad n0 (r q2) fun v4 => fad n0 v4 fun v5 => ld s v5 fun v6 => fad n0 (r q2) fun v7 => fad n1 v7 fun v8 => ld s v8 fun v9 => fad n0 (r q2) fun v10 => fad n2 v10 fun v11 => ld s v11 fun v12 => fad n0 (r q2) fun v13 => fad n3 v13 fun v14 => ld s v14 fun v15 => h_op3_buildS n6 n1 [zi, zi, zi, zi, zi, zi] [(n0, n1, (.c v1)), (n1, n1, (.c v3)), (n2, n1, (.c v6)), (n3, n1, (.c v9)), (n4, n1, (.c v12)), (n5, n1, (.c v15))] c r s fun v16 s => lnS v16 fun v17 => K [v16, v17, I0] s)
 (.block n0 (.loop (.seq (.reg [q62] fun c r s K => binK .lss (r q61) (r q60) fun v0 => K [v0] s)
 (.seq (.cond (.t q62) .skip
 (.exit n0))
 (.seq (.block n1 (.seq (.reg [q10] fun c r s K => ixs n1 (r q59) (r q61) fun v0 => ld s v0 fun v1 => K [v1] s)
 (.reg [] fun c r s K => lN s n5 (r q8) fun v0 => cnv .u64 (r q10) fun v1 => h_op3_buildS n1 n1 [zu] [(n0, n1, (.c v1))] c r s fun v2 s => c n87 [v0, v2] s fun v3 s => sto s n5 (r q8) v3 fun s => K [] s)))
 (.reg [q61] fun c r s K => binK .add (r q61) I1 fun v0 => K [v0] s)))))))
 (.seq (.reg [] fun c r s K => lN s n5 (r q8) fun v0 => fad n13 (r q2) fun v1 => ld s v1 fun v2 => c n88 [v0, v2] s fun v3 s => sto s n5 (r q8) v3 fun s => K [] s)
 (.seq (.drw [q11] fun c r s K => (fun z m => fad n0 (r q6) fun v0 => dL z m n2 n1 s v0 fun v1 m s => dN z m n4 n0 s n8 (r q6) fun v2 m s => dw3 m n8 n4 s (fun s q => c n90 [v2] s q) fun v3 m s => dw3 m n16 n15 s (fun s q => c n89 [v1, v3] s q) fun v4 m s => dw1 m n32 (fun q => alc s [zu, zu] q) fun v5 m s => dS z m n64 n63 s n2 v5 v4 fun _ m s => K [v5] s) s.next mk0)
 (.seq (.reg [] fun c r s K => lN s n5 (r q8) fun v0 => ixA n2 n1 (r q11) I0 fun v1 => ld s v1 fun v2 => ixA n2 n1 (r q11) I1 fun v3 => ld s v3 fun v4 => h_op3_buildS n2 n1 [zu, zu] [(n0, n1, (.c v2)), (n1, n1, (.c v4))] c r s fun v5 s => c n87 [v0, v5] s fun v6 s => sto s n5 (r q8) v6 fun s => K [] s)
 (.seq (.reg [q5] fun c r s K => lN s n5 (r q8) fun v0 => c n87 [v0, (r q1)] s fun v1 s => sto s n5 (r q4) v1 fun s => K [I0] s)
 .ret))))))))), [(.cellN n5 q4), (.tmp q5)], [q0, q1], [q13, q14, q12, q15, q16, q17, q18, q19, q20, q21, q22, q23, q24, q25, q26, q27, q28, q29, q30, q31, q32, q33, q34, q35, q36, q37, q39, q40, q41, q42, q43, q44, q45, q46, q47, q48, q49, q50, q51, q52, q53, q54, q55, q56, q57, q58, q63, q64, q65, q66, q67, q68, q69, q70, q71, q72, q73, q74, q75, q76, q77, q78, q79, q80, q81, q82, q83, q84, q85, q86, q87, q88, q89]⟩
/- attestor/system.Words -/
noncomputable def cf90 : HF := ⟨
(.seq (.reg [q1, q2] fun c r s K => bxx s (r q0) fun v0 s => K [v0, (.sc zn)] s)
 (.seq (.seq (.reg [q18] fun c r s K => lN s n8 (r q1) fun v0 => c n118 [v0] s fun v1 s => nott v1 fun v2 => K [v2] s)
 (.cond (.t q18) (.seq (.reg [q2] fun c r s K => K [(.sc zn)] s)
 .ret)
 .skip))
 (.seq (.reg [q3] fun c r s K => alc s [zn] fun v0 s => K [v0] s)
 (.seq (.reg [q4] fun c r s K => h_op4_makeFunc (nat_lit 186) [(.c (r q3))] c r s fun v0 s => alc s [(.lit .nilFunc)] fun v1 s => sto s n1 v1 v0 fun s => K [v1] s)
 (.seq (.reg [q5] fun c r s K => h_op4_makeFunc (nat_lit 187) [(.c (r q4))] c r s fun v0 s => K [v0] s)
 (.seq (.reg [] fun c r s K => ld s (r q4) fun v0 => fad n0 (r q1) fun v1 => ld s v1 fun v2 => fad n1 (r q1) fun v3 => ld s v3 fun v4 => fad n2 (r q1) fun v5 => ld s v5 fun v6 => fad n3 (r q1) fun v7 => ld s v7 fun v8 => fad n4 (r q1) fun v9 => ld s v9 fun v10 => lnS v10 fun v11 => fad n5 (r q1) fun v12 => ld s v12 fun v13 => lnS v13 fun v14 => fad n6 (r q1) fun v15 => ld s v15 fun v16 => lnS v16 fun v17 => fad n7 (r q1) fun v18 => ld s v18 fun v19 => lnS v19 fun v20 => h_op3_buildS n8 n1 [zi, zi, zi, zi, zi, zi, zi, zi] [(n0, n1, (.c v2)), (n1, n1, (.c v4)), (n2, n1, (.c v6)), (n3, n1, (.c v8)), (n4, n1, (.c v11)), (n5, n1, (.c v14)), (n6, n1, (.c v17)), (n7, n1, (.c v20))] c r s fun v21 s => h_op4_callV (.c v0) [(.c v21)] c r s fun v22 s => K [] s)
 (.seq (.seq (.reg [q45, q46, q47] fun c r s K => fad n5 (r q1) fun v0 => ld s v0 fun v1 => lnS v1 fun v2 => K [v1, v2, I0] s)
 (.block n0 (.loop (.seq (.reg [q48] fun c r s K => binK .lss (r q47) (r q46) fun v0 => K [v0] s)
 (.seq (.cond (.t q48) .skip
 (.exit n0))
 (.seq (.block n1 (.seq (.reg [q7] fun c r s K => ixs n2 (r q45) (r q47) fun v0 => lN s n2 v0 fun v1 => alc s [zb, zn] fun v2 s => sto s n2 v2 v1 fun s => K [v2] s)
 (.seq (.reg [] fun c r s K => ld s (r q4) fun v0 => fad n0 (r q7) fun v1 => ld s v1 fun v2 => cnv .i64 v2 fun v3 => fad n1 (r q7) fun v4 => ld s v4 fun v5 => lnS v5 fun v6 => h_op3_buildS n2 n1 [zi, zi] [(n0, n1, (.c v3)), (n1, n1, (.c v6))] c r s fun v7 s => h_op4_callV (.c v0) [(.c v7)] c r s fun v8 s => K [] s)
 (.seq (.reg [q61, q62, q63] fun c r s K => fad n1 (r q7) fun v0 => ld s v0 fun v1 => lnS v1 fun v2 => K [v1, v2, I0] s)
 (.block n2 (.loop (.seq (.reg [q64] fun c r s K => binK .lss (r q63) (r q62) fun v0 => K [v0] s)
 (.seq (.cond (.t q64) .skip
 (.exit n2))
 (.seq (.block n3 (.seq (.reg [q9] fun c r s K => ixs n2 (r q61) (r q63) fun v0 => lN s n2 v0 fun v1 => alc s [zu, zn] fun v2 s => sto s n2 v2 v1 fun s => K [v2] s)
 (.seq (.reg [] fun c r s K => ld s (r q3) fun v0 => fad n0 (r q9) fun v1 => ld s v1 fun v2 => h_op3_buildS n1 n1 [zu] [(n0, n1, (.c v2))] c r s fun v3 s => xA n1 n8 v0 v3 c r s fun v4 s => sto s n1 (r q3) v4 fun s => K [] s)
 (.seq (.reg [] fun c r s K => ld s (r q4) fun v0 => fad n1 (r q9) fun v1 => ld s v1 fun v2 => lnS v2 fun v3 => h_op3_buildS n1 n1 [zi] [(n0, n1, (.c v3))] c r s fun v4 s => h_op4_callV (.c v0) [(.c v4)] c r s fun v5 s => K [] s)
 (.reg [] fun c r s K => fad n1 (r q9) fun v0 => ld s v0 fun v1 => h_op4_callV (.c (r q5)) [(.c v1)] c r s fun v2 s => K [] s)))))
 (.reg [q63] fun c r s K => binK .add (r q63) I1 fun v0 => K [v0] s))))))))))
 (.reg [q47] fun c r s K => binK .add (r q47) I1 fun v0 => K [v0] s)))))))
 (.seq (.seq (.reg [q85, q86, q87] fun c r s K => fad n6 (r q1) fun v0 => ld s v0 fun v1 => lnS v1 fun v2 => K [v1, v2, I0] s)
 (.block n4 (.loop (.seq (.reg [q88] fun c r s K => binK .lss (r q87) (r q86) fun v0 => K [v0] s)
 (.seq (.cond (.t q88) .skip
 (.exit n4))
 (.seq (.block n5 (.seq (.reg [q11] fun c r s K => ixs n2 (r q85) (r q87) fun v0 => lN s n2 v0 fun v1 => alc s [zn, zn] fun v2 s => sto s n2 v2 v1 fun s => K [v2] s)
 (.seq (.drw [] fun c r s K => (fun z m => dL z m n1 n0 s (r q4) fun v0 m s => fad n0 (r q11) fun v1 => dL z m n4 n2 s v1 fun v2 m s => lnS v2 fun v3 => fad n0 (r q11) fun v4 => dL z m n32 n16 s v4 fun v5 m s => ixs n1 v5 I0 fun v6 => dL z m n128 n112 s v6 fun v7 m s => lnS v7 fun v8 => dw1 m (nat_lit 512) (fun q => h_op3_buildS n2 n1 [zi, zi] [(n0, n1, (.c v3)), (n1, n1, (.c v8))] c r s q) fun v9 m s => dw3 m (nat_lit 1024) (nat_lit 1023) s (fun s q => h_op4_callV (.c v0) [(.c v9)] c r s q) fun v10 m s => K [] s) s.next mk0)
 (.seq (.reg [q107, q108, q109] fun c r s K => fad n0 (r q11) fun v0 => ld s v0 fun v1 => fad n1 (r q11) fun v2 => ld s v2 fun v3 => h_op3_buildS n2 n1 [zn, zn] [(n0, n1, (.c v1)), (n1, n1, (.c v3))] c r s fun v4 s => c (nat_lit 188) [v4] s fun v5 s => lnS v5 fun v6 => K [v5, v6, I0] s)
 (.block n6 (.loop (.seq (.reg [q110] fun c r s K => binK .lss (r q109) (r q108) fun v0 => K [v0] s)
 (.seq (.cond (.t q110) .skip
 (.exit n6))
 (.seq (.block n7 (.seq (.reg [q13] fun c r s K => ixs n1 (r q107) (r q109) fun v0 => ld s v0 fun v1 => K [v1] s)
 (.reg [] fun c r s K => h_op4_callV (.c (r q5)) [(.c (r q13))] c r s fun v0 s => K [] s)))
 (.reg [q109] fun c r s K => binK .add (r q109) I1 fun v0 => K [v0] s))))))))))
 (.reg [q87] fun c r s K => binK .add (r q87) I1 fun v0 => K [v0] s)))))))
 (.seq (.seq (.reg [q119, q120, q121] fun c r s K => fad n7 (r q1) fun v0 => ld s v0 fun v1 => lnS v1 fun v2 => K [v1, v2, I0] s)
 (.block n8 (.loop (.seq (.reg [q122] fun c r s K => binK .lss (r q121) (r q120) fun v0 => K [v0] s)
 (.seq (.cond (.t q122) .skip
 (.exit n8))
 (.seq (.block n9 (.seq (.reg [q15] fun c r s K => ixs n4 (r q119) (r q121) fun v0 => lN s n4 v0 fun v1 => alc s [zn, zn, zb, zi] fun v2 s => sto s n4 v2 v1 fun s => K [v2] s)
 (.seq (.reg [] fun c r s K => ld s (r q4) fun v0 => fad n0 (r q15) fun v1 => ld s v1 fun v2 => lnS v2 fun v3 => h_op3_buildS n1 n1 [zi] [(n0, n1, (.c v3))] c r s fun v4 s => h_op4_callV (.c v0) [(.c v4)] c r s fun v5 s => K [] s)
 (.seq (.reg [] fun c r s K => fad n0 (r q15) fun v0 => ld s v0 fun v1 => h_op4_callV (.c (r q5)) [(.c v1)] c r s fun v2 s => K [] s)
 (.seq (.reg [] fun c r s K => fad n1 (r q15) fun v0 => ld s v0 fun v1 => h_op4_callV (.c (r q5)) [(.c v1)] c r s fun v2 s => K [] s)
 (.reg [] fun c r s K => fad n2 (r q15) fun v0 => lN s n2 v0 fun v1 => h_op3_buildS n1 n2 [zb, zi] [(n0, n2, (.c v1))] c r s fun v2 s => h_op4_callV (.c (r q5)) [(.c v2)] c r s fun v3 s => K [] s))))))
 (.reg [q121] fun c r s K => binK .add (r q121) I1 fun v0 => K [v0] s)))))))
 (.seq (.reg [q2] fun c r s K => ld s (r q3) fun v0 => K [v0] s)
 .ret)))))))))), [(.tmp q2)], [q0], [q16, q17, q19, q20, q21, q22, q23, q24, q25, q26, q27, q28, q29, q30, q31, q32, q33, q34, q35, q36, q37, q38, q39, q40, q41, q42, q43, q44, q49, q50, q51, q52, q53, q54, q55, q56, q57, q58, q59, q60, q65, q66, q67, q68, q69, q70, q71, q72, q73, q74, q75, q76, q77, q78, q79, q80, q81, q82, q83, q84, q89, q90, q91, q92, q93, q94, q95, q96, q97, q98, q99, q100, q101, q102, q103, q104, q105, q106, q111, q112, q113, q114, q115, q116, q117, q118, q123, q124, q125, q126, q127, q128, q129, q130, q131, q132, q133, q134, q135, q136, q137, q138, q139, q140, q141, q142, q143, q144, q145]⟩
/- attestor/system.Words$2 -/
noncomputable def cf187 : HF := ⟨
(.seq (.reg [q5, q6, q7] fun c r s K => lnS (r q0) fun v0 => K [(r q0), v0, I0] s)
 (.block n0 (.loop (.seq (.reg [q8] fun c r s K => binK .lss (r q7) (r q6) fun v0 => K [v0] s)
 (.seq (.cond (.t q8) .skip
 (.exit n0))
 (.seq (.block n1 (.seq (.reg [q4] fun c r s K => ixs n2 (r q5) (r q7) fun v0 => lN s n2 v0 fun v1 => alc s [zb, zi] fun v2 s => sto s n2 v2 v1 fun s => K [v2] s)
 (.reg [] fun c r s K => ld s (r q1) fun v0 => fad n0 (r q4) fun v1 => ld s v1 fun v2 => cnv .i64 v2 fun v3 => fad n1 (r q4) fun v4 => ld s v4 fun v5 => h_op3_buildS n2 n1 [zi, zi] [(n0, n1, (.c v3)), (n1, n1, (.c v5))] c r s fun v6 s => h_op4_callV (.c v0) [(.c v6)] c r s fun v7 s => K [] s)))
 (.reg [q7] fun c r s K => binK .add (r q7) I1 fun v0 => K [v0] s))))))), [], [q0, q1], [q9, q10, q11, q12, q13, q14, q15, q16, q17, q18, q19]⟩
/- attestor/system.Words$1 -/
noncomputable def cf186 : HF := ⟨
(.seq (.reg [q5, q6, q7] fun c r s K => lnS (r q0) fun v0 => K [(r q0), v0, I0] s)
 (.block n0 (.loop (.seq (.reg [q8] fun c r s K => binK .lss (r q7) (r q6) fun v0 => K [v0] s)
 (.seq (.cond (.t q8) .skip
 (.exit n0))
 (.seq (.block n1 (.seq (.reg [q4] fun c r s K => ixs n1 (r q5) (r q7) fun v0 => ld s v0 fun v1 => K [v1] s)
 (.reg [] fun c r s K => ld s (r q1) fun v0 => cnv .u64 (r q4) fun v1 => h_op3_buildS n1 n1 [zu] [(n0, n1, (.c v1))] c r s fun v2 s => xA n1 n8 v0 v2 c r s fun v3 s => sto s n1 (r q1) v3 fun s => K [] s)))
 (.reg [q7] fun c r s K => binK .add (r q7) I1 fun v0 => K [v0] s))))))), [], [q0, q1], [q9, q10, q11, q12, q13, q14, q15, q16]⟩
/- attestor/channel.New -/
noncomputable def cf86 : HF := ⟨
(.seq (.reg [q2] fun c r s K => alc s [zi, zu, zu, zu, zu] fun v0 s => K [v0] s)
 (.seq (.seq (.reg [q5] fun c r s K => c (nat_lit 181) [(r q0)] s fun v0 s => nott v0 fun v1 => K [v1] s)
 (.cond (.t q5) (.reg [q0] fun c r s K => K [I0] s)
 .skip))
 (.seq (.reg [] fun c r s K => h_op3_build [zi, zu, zu, zu, zu] [(n0, n1, (.c (r q0)))] c r s fun v0 s => sto s n5 (r q2) v0 fun s => K [] s)
 .ret))), [(.cellN n5 q2)], [q0], [q3, q4, q6, q7]⟩
/- attestor/system.Holds -/
noncomputable def cf49 : HF := ⟨
(.seq (.reg [q2, q3, q4, q5] fun c r s K => bxx s (r q0) fun v0 s => bxx s (r q1) fun v1 s => K [v0, v1, ff, I0] s)
 (.seq (.reg [q6, q7] fun c r s K => lN s n8 (r q2) fun v0 => lN s n2 (r q3) fun v1 => c n129 [v0, v1] s fun v2 s => xE n0 v2 c r s fun v3 s => xE n1 v2 c r s fun v4 s => K [v3, v4] s)
 (.seq (.reg [q4, q5] fun c r s K => binK .eql (r q7) I0 fun v0 => mt v0 (r q6) s fun v1 s => jt v0 (lnS v1) s fun v2 s => jt v0 (binK .eql v2 I0) s fun v3 s => pck v0 v3 ff fun v4 => K [v4, (r q7)] s)
 .ret))), [(.tmp q4), (.tmp q5)], [q0, q1], [q9, q10, q11, q8, q12, q13, q14, q15, q16, q17, q18, q19, q20, q21]⟩
/- attestor/system.Faults -/
noncomputable def cf129 : HF := ⟨
(.seq (.reg [q2, q3, q4, q5] fun c r s K => bxx s (r q0) fun v0 s => bxx s (r q1) fun v1 s => K [v0, v1, (.sc zn), I0] s)
 (.seq (.seq (.reg [q21] fun c r s K => lN s n8 (r q2) fun v0 => lN s n2 (r q3) fun v1 => c n48 [v0, v1] s fun v2 s => nott v2 fun v3 => K [v3] s)
 (.cond (.t q21) (.seq (.reg [q4, q5] fun c r s K => K [(.sc zn), I1] s)
 .ret)
 .skip))
 (.seq (.reg [q6] fun c r s K => K [(.sc zn)] s)
 (.seq (.seq (.reg [q23, q24, q25] fun c r s K => fad n5 (r q2) fun v0 => ld s v0 fun v1 => lnS v1 fun v2 => K [v1, v2, I0] s)
 (.block n0 (.loop (.seq (.reg [q26] fun c r s K => binK .lss (r q25) (r q24) fun v0 => K [v0] s)
 (.seq (.cond (.t q26) .skip
 (.exit n0))
 (.seq (.block n1 (.seq (.reg [q8, q7] fun c r s K => ixs n2 (r q23) (r q25) fun v0 => lN s n2 v0 fun v1 => alc s [zb, zn] fun v2 s => sto s n2 v2 v1 fun s => K [v2, (r q25)] s)
 (.seq (.drw [q9, q10] fun c r s K => (fun z m => fad n0 (r q8) fun v0 => dL z m n2 n1 s v0 fun v1 m s => fad n1 (r q2) fun v2 => dL z m n8 n4 s v2 fun v3 m s => xS true I1 v3 c r s fun v4 s => dw3 m n32 n31 s (fun s q => c (nat_lit 244) [v1, v4] s q) fun v5 m s => xE n0 v5 c r s fun v6 s => xE n1 v5 c r s fun v7 s => K [v6, v7] s) s.next mk0)
 (.seq (.reg [q11] fun c r s K => K [(r q9)] s)
 (.block n2 (.loop (.seq (.seq (.reg [q42] fun c r s K => binK .lss (r q11) (r q10) fun v0 => K [v0] s)
 (.cond (.t q42) .skip
 (.exit n2)))
 (.seq (.block n3 (.seq (.drw [q12] fun c r s K => (fun z m => fad n0 (r q2) fun v0 => dL z m n2 n1 s v0 fun v1 m s => fad n1 (r q8) fun v2 => dL z m n8 n4 s v2 fun v3 m s => dN z m n16 n0 s n8 (r q2) fun v4 m s => dN z m n32 n0 s n2 (r q3) fun v5 m s => dw3 m n128 n112 s (fun s q => c (nat_lit 246) [v4, v5, (r q11)] s q) fun v6 m s => dw3 m (nat_lit 256) (nat_lit 255) s (fun s q => c (nat_lit 245) [v1, v3, v6] s q) fun v7 m s => xE n0 v7 c r s fun v8 s => xE n1 v7 c r s fun v9 s => K [v8] s) s.next mk0)
 (.seq (.reg [q58] fun c r s K => binK .neq (r q12) U0 fun v0 => K [v0] s)
 (.cond (.t q58) (.reg [q6] fun c r s K => h_op3_build [zi, zi] [(n0, n1, (.c (r q7))), (n1, n1, (.c (r q11)))] c r s fun v0 s => h_op3_buildS n1 n2 [zi, zi] [(n0, n2, (.c v0))] c r s fun v1 s => xA n2 n16 (r q6) v1 c r s fun v2 s => K [v2] s)
 .skip))))
 (.reg [q11] fun c r s K => binK .add (r q11) I1 fun v0 => K [v0] s)))))))))
 (.reg [q25] fun c r s K => binK .add (r q25) I1 fun v0 => K [v0] s)))))))
 (.seq (.seq (.reg [q67, q68, q69] fun c r s K => fad n6 (r q2) fun v0 => ld s v0 fun v1 => lnS v1 fun v2 => K [v1, v2, I0] s)
 (.block n4 (.loop (.seq (.reg [q70] fun c r s K => binK .lss (r q69) (r q68) fun v0 => K [v0] s)
 (.seq (.cond (.t q70) .skip
 (.exit n4))
 (.seq (.block n5 (.seq (.reg [q15, q14] fun c r s K => ixs n2 (r q67) (r q69) fun v0 => lN s n2 v0 fun v1 => alc s [zn, zn] fun v2 s => sto s n2 v2 v1 fun s => K [v2, (r q69)] s)
 (.seq (.reg [q78] fun c r s K => lN s n8 (r q2) fun v0 => lN s n2 (r q3) fun v1 => lN s n2 (r q15) fun v2 => c (nat_lit 247) [v0, v1, v2] s fun v3 s => nott v3 fun v4 => K [v4] s)
 (.cond (.t q78) (.reg [q6] fun c r s K => fad n5 (r q2) fun v0 => ld s v0 fun v1 => lnS v1 fun v2 => binK .add v2 (r q14) fun v3 => h_op3_build [zi, zi] [(n0, n1, (.c v3)), (n1, n1, (.c (.sc (.int .i64 (.negSucc n0)))))] c r s fun v4 s => h_op3_buildS n1 n2 [zi, zi] [(n0, n2, (.c v4))] c r s fun v5 s => xA n2 n16 (r q6) v5 c r s fun v6 s => K [v6] s)
 .skip))))
 (.reg [q69] fun c r s K => binK .add (r q69) I1 fun v0 => K [v0] s)))))))
 (.seq (.seq (.reg [q90, q91, q92] fun c r s K => fad n7 (r q2) fun v0 => ld s v0 fun v1 => lnS v1 fun v2 => K [v1, v2, I0] s)
 (.block n6 (.loop (.seq (.reg [q93] fun c r s K => binK .lss (r q92) (r q91) fun v0 => K [v0] s)
 (.seq (.cond (.t q93) .skip
 (.exit n6))
 (.seq (.block n7 (.seq (.reg [q17, q16] fun c r s K => ixs n4 (r q90) (r q92) fun v0 => lN s n4 v0 fun v1 => alc s [zn, zn, zb, zi] fun v2 s => sto s n4 v2 v1 fun s => K [v2, (r q92)] s)
 (.seq (.reg [q101] fun c r s K => lN s n8 (r q2) fun v0 => lN s n2 (r q3) fun v1 => lN s n4 (r q17) fun v2 => c (nat_lit 248) [v0, v1, v2] s fun v3 s => nott v3 fun v4 => K [v4] s)
 (.cond (.t q101) (.reg [q6] fun c r s K => fad n5 (r q2) fun v0 => ld s v0 fun v1 => lnS v1 fun v2 => fad n6 (r q2) fun v3 => ld s v3 fun v4 => lnS v4 fun v5 => binK .add v2 v5 fun v6 => binK .add v6 (r q16) fun v7 => h_op3_build [zi, zi] [(n0, n1, (.c v7)), (n1, n1, (.c (.sc (.int .i64 (.negSucc n0)))))] c r s fun v8 s => h_op3_buildS n1 n2 [zi, zi] [(n0, n2, (.c v8))] c r s fun v9 s => xA n2 n16 (r q6) v9 c r s fun v10 s => K [v10] s)
 .skip))))
 (.reg [q92] fun c r s K => binK .add (r q92) I1 fun v0 => K [v0] s)))))))
 (.seq (.reg [q4, q5] fun c r s K => K [(r q6), I0] s)
 .ret))))))), [(.tmp q4), (.tmp q5)], [q0, q1], [q18, q19, q20, q22, q27, q28, q29, q31, q32, q33, q34, q35, q36, q30, q37, q38, q39, q40, q41, q46, q47, q48, q49, q50, q51, q52, q53, q54, q45, q55, q56, q13, q57, q59, q60, q61, q62, q63, q64, q43, q44, q65, q66, q71, q72, q73, q74, q75, q76, q77, q79, q80, q81, q82, q83, q84, q85, q86, q87, q88, q89, q94, q95, q96, q97, q98, q99, q100, q102, q103, q104, q105, q106, q107, q108, q109, q110, q111, q112, q113, q114, q115, q116]⟩
/- attestor/system.counted -/
noncomputable def cf248 : HF := ⟨
(.seq (.reg [q3, q4, q5, q6] fun c r s K => bxx s (r q0) fun v0 s => bxx s (r q1) fun v1 s => bxx s (r q2) fun v2 s => K [v0, v1, v2, ff] s)
 (.seq (.reg [q7] fun c r s K => h_op5_mapNew  c r s fun v0 s => K [v0] s)
 (.seq (.seq (.reg [q19, q20] fun c r s K => fad n1 (r q3) fun v0 => ld s v0 fun v1 => xS true I1 v1 c r s fun v2 s => K [v2, I0] s)
 (.block n0 (.loop (.seq (.reg [q21] fun c r s K => binK .lss (r q20) (r q19) fun v0 => K [v0] s)
 (.seq (.cond (.t q21) .skip
 (.exit n0))
 (.seq (.block n1 (.seq (.reg [q8] fun c r s K => K [(r q20)] s)
 (.seq (.reg [q9] fun c r s K => lN s n8 (r q3) fun v0 => lN s n2 (r q4) fun v1 => fad n1 (r q5) fun v2 => ld s v2 fun v3 => c (nat_lit 356) [v0, v1, (r q8), v3] s fun v4 s => K [v4] s)
 (.drw [] fun c r s K => (fun z m => fad n0 (r q3) fun v0 => dL z m n8 n4 s v0 fun v1 m s => dw3 m n64 n48 s (fun s q => h_op5_mapGet n2 [zu] false false (.c (r q7)) (.c (r q9)) c r s q) fun v2 m s => fad n1 (r q4) fun v3 => dL z m (nat_lit 256) n128 s v3 fun v4 m s => fad n2 (r q5) fun v5 => fad n1 v5 fun v6 => dL z m (nat_lit 2048) (nat_lit 1536) s v6 fun v7 m s => ixs n1 v4 v7 fun v8 => dL z m (nat_lit 8192) (nat_lit 8064) s v8 fun v9 m s => ixs n1 v9 (r q8) fun v10 => dL z m (nat_lit 65536) (nat_lit 65408) s v10 fun v11 m s => dw3 m (nat_lit 131072) (nat_lit 131068) s (fun s q => c n137 [v1, v2, v11] s q) fun v12 m s => dw3 m (nat_lit 262144) (nat_lit 262143) s (fun s q => h_op5_mapSet n2 (.c (r q7)) (.c (r q9)) (.c v12) c r s q) fun _ m s => K [] s) s.next mk0))))
 (.reg [q20] fun c r s K => binK .add (r q20) I1 fun v0 => K [v0] s)))))))
 (.seq (.seq (.reg [q50, q51] fun c r s K => fad n1 (r q3) fun v0 => ld s v0 fun v1 => xS true I1 v1 c r s fun v2 s => K [v2, I0] s)
 (.block n2 (.loop (.seq (.reg [q52] fun c r s K => binK .lss (r q51) (r q50) fun v0 => K [v0] s)
 (.seq (.cond (.t q52) .skip
 (.exit n2))
 (.seq (.block n3 (.seq (.reg [q10] fun c r s K => K [(r q51)] s)
 (.seq (.reg [q11] fun c r s K => lN s n8 (r q3) fun v0 => lN s n2 (r q4) fun v1 => fad n0 (r q5) fun v2 => ld s v2 fun v3 => c (nat_lit 356) [v0, v1, (r q10), v3] s fun v4 s => K [v4] s)
 (.seq (.reg [q12, q13] fun c r s K => h_op5_mapGet n2 [zu] false true (.c (r q7)) (.c (r q11)) c r s fun v0 s => xE n0 v0 c r s fun v1 s => xE n1 v0 c r s fun v2 s => K [v1, v2] s)
 (.seq (.seq (.reg [q67] fun c r s K => nott (r q13) fun v0 => K [v0] s)
 (.cond (.t q67) (.seq (.reg [q6] fun c r s K => K [ff] s)
 .ret)
 .skip))
 (.reg [] fun c r s K => fad n0 (r q3) fun v0 => ld s v0 fun v1 => c (nat_lit 346) [v1, (r q12), U1] s fun v2 s => h_op5_mapSet n2 (.c (r q7)) (.c (r q11)) (.c v2) c r s fun _ s => K [] s))))))
 (.reg [q51] fun c r s K => binK .add (r q51) I1 fun v0 => K [v0] s)))))))
 (.seq (.seq (.reg [] fun c r s K => h_op4_bad n102 c r s fun _ s => K [] s)
 (.block n4 (.loop (.seq (.reg [q78] fun c r s K => h_op4_bad n102 c r s fun _ s => xE n0 (r q77) c r s fun v1 s => K [v1] s)
 (.seq (.cond (.t q78) .skip
 (.exit n4))
 (.block n5 (.seq (.reg [q15] fun c r s K => h_op4_bad n102 c r s fun _ s => xE n1 (r q79) c r s fun v1 s => K [v1] s)
 (.seq (.reg [q82] fun c r s K => binK .neq (r q15) U0 fun v0 => K [v0] s)
 (.cond (.t q82) (.seq (.reg [q6] fun c r s K => K [ff] s)
 .ret)
 .skip)))))))))
 (.seq (.reg [q6] fun c r s K => K [tt] s)
 .ret)))))), [(.tmp q6)], [q0, q1, q2], [q16, q17, q18, q22, q23, q24, q25, q26, q27, q28, q29, q30, q31, q32, q33, q34, q35, q36, q37, q38, q39, q40, q41, q42, q43, q44, q45, q46, q47, q48, q49, q53, q54, q55, q56, q57, q58, q59, q61, q62, q63, q60, q64, q65, q66, q68, q69, q70, q71, q72, q73, q74, q75, q80, q81]⟩
/- attestor/system.key -/
noncomputable def cf356 : HF := ⟨
(.seq (.reg [q4, q5, q8] fun c r s K => bxx s (r q0) fun v0 s => bxx s (r q1) fun v1 s => (fun v2 => K [v0, v1, v2] s) (.sc (.lit (.string ⟨#[]⟩))))
 (.seq (.reg [q9] fun c r s K => K [(.sc zn)] s)
 (.seq (.seq (.reg [q13, q14, q15] fun c r s K => lnS (r q3) fun v0 => K [(r q3), v0, I0] s)
 (.block n0 (.loop (.seq (.reg [q16] fun c r s K => binK .lss (r q15) (r q14) fun v0 => K [v0] s)
 (.seq (.cond (.t q16) .skip
 (.exit n0))
 (.seq (.block n1 (.seq (.reg [q11] fun c r s K => ixs n2 (r q13) (r q15) fun v0 => lN s n2 v0 fun v1 => alc s [zb, zi] fun v2 s => sto s n2 v2 v1 fun s => K [v2] s)
 (.seq (.reg [q12] fun c r s K => K [U0] s)
 (.seq (.seq (.reg [q21] fun c r s K => fad n0 (r q11) fun v0 => ld s v0 fun v1 => binK .eql v1 B3 fun v2 => K [v2] s)
 (.cond (.t q21) (.reg [q12] fun c r s K => fad n4 (r q4) fun v0 => ld s v0 fun v1 => fad n1 (r q11) fun v2 => ld s v2 fun v3 => ixs n1 v1 v3 fun v4 => ld s v4 fun v5 => ixs n1 v5 (r q2) fun v6 => ld s v6 fun v7 => K [v7] s)
 (.reg [q12] fun c r s K => fad n1 (r q5) fun v0 => ld s v0 fun v1 => fad n1 (r q11) fun v2 => ld s v2 fun v3 => ixs n1 v1 v3 fun v4 => ld s v4 fun v5 => ixs n1 v5 (r q2) fun v6 => ld s v6 fun v7 => K [v7] s)))
 (.reg [q9] fun c r s K => cnv .u8 (r q12) fun v0 => xS false (r q12) U8 c r s fun v1 s => cnv .u8 v1 fun v2 => xS false (r q12) U16 c r s fun v3 s => cnv .u8 v3 fun v4 => xS false (r q12) U24 c r s fun v5 s => cnv .u8 v5 fun v6 => h_op3_buildS n4 n1 [zb, zb, zb, zb] [(n0, n1, (.c v0)), (n1, n1, (.c v2)), (n2, n1, (.c v4)), (n3, n1, (.c v6))] c r s fun v7 s => xA n1 n1 (r q9) v7 c r s fun v8 s => K [v8] s)))))
 (.reg [q15] fun c r s K => binK .add (r q15) I1 fun v0 => K [v0] s)))))))
 (.seq (.reg [q8] fun c r s K => h_op5_strOf (.c (r q9)) c r s fun v0 s => K [v0] s)
 .ret)))), [(.tmp q8)], [q0, q1, q2, q3], [q17, q18, q19, q20, q22, q23, q24, q25, q26, q27, q28, q29, q30, q31, q32, q33, q34, q35, q36, q37, q38, q39, q40, q41, q42, q43, q44, q45, q46, q47, q48, q49, q50, q51, q52, q53, q54, q55, q56]⟩
/- attestor/system.balanced -/
noncomputable def cf247 : HF := ⟨
(.seq (.reg [q3, q4, q5, q6] fun c r s K => bxx s (r q0) fun v0 s => bxx s (r q1) fun v1 s => bxx s (r q2) fun v2 s => K [v0, v1, v2, ff] s)
 (.seq (.reg [q7] fun c r s K => h_op5_mapNew  c r s fun v0 s => K [v0] s)
 (.seq (.seq (.reg [q15, q16] fun c r s K => fad n1 (r q3) fun v0 => ld s v0 fun v1 => xS true I1 v1 c r s fun v2 s => K [v2, I0] s)
 (.block n0 (.loop (.seq (.reg [q17] fun c r s K => binK .lss (r q16) (r q15) fun v0 => K [v0] s)
 (.seq (.cond (.t q17) .skip
 (.exit n0))
 (.seq (.block n1 (.seq (.reg [q8] fun c r s K => K [(r q16)] s)
 (.seq (.reg [q21, q22] fun c r s K => fad n0 (r q5) fun v0 => ld s v0 fun v1 => lnS v1 fun v2 => K [v2, I0] s)
 (.block n2 (.loop (.seq (.reg [q23] fun c r s K => binK .lss (r q22) (r q21) fun v0 => K [v0] s)
 (.seq (.cond (.t q23) .skip
 (.exit n2))
 (.seq (.block n3 (.seq (.reg [q9] fun c r s K => K [(r q22)] s)
 (.seq (.drw [] fun c r s K => (fun z m => dN z m n2 n0 s n8 (r q3) fun v0 m s => dN z m n4 n0 s n2 (r q4) fun v1 m s => fad n0 (r q5) fun v2 => dL z m n32 n16 s v2 fun v3 m s => ixs n1 v3 (r q9) fun v4 => dL z m (nat_lit 256) (nat_lit 240) s v4 fun v5 m s => dw3 m (nat_lit 512) (nat_lit 510) s (fun s q => c (nat_lit 356) [v0, v1, (r q8), v5] s q) fun v6 m s => dw3 m (nat_lit 1024) (nat_lit 1023) s (fun s q => h_op5_mapGet n2 [zi] false false (.c (r q7)) (.c v6) c r s q) fun v7 m s => binK .add v7 I1 fun v8 => dw3 m (nat_lit 4096) (nat_lit 4095) s (fun s q => h_op5_mapSet n2 (.c (r q7)) (.c v6) (.c v8) c r s q) fun _ m s => K [] s) s.next mk0)
 (.drw [] fun c r s K => (fun z m => dN z m n2 n0 s n8 (r q3) fun v0 m s => dN z m n4 n0 s n2 (r q4) fun v1 m s => fad n1 (r q5) fun v2 => dL z m n32 n16 s v2 fun v3 m s => ixs n1 v3 (r q9) fun v4 => dL z m (nat_lit 256) (nat_lit 240) s v4 fun v5 m s => dw3 m (nat_lit 512) (nat_lit 510) s (fun s q => c (nat_lit 356) [v0, v1, (r q8), v5] s q) fun v6 m s => dw3 m (nat_lit 1024) (nat_lit 1023) s (fun s q => h_op5_mapGet n2 [zi] false false (.c (r q7)) (.c v6) c r s q) fun v7 m s => binK .sub v7 I1 fun v8 => dw3 m (nat_lit 4096) (nat_lit 4095) s (fun s q => h_op5_mapSet n2 (.c (r q7)) (.c v6) (.c v8) c r s q) fun _ m s => K [] s) s.next mk0))))
 (.reg [q22] fun c r s K => binK .add (r q22) I1 fun v0 => K [v0] s)))))))))
 (.reg [q16] fun c r s K => binK .add (r q16) I1 fun v0 => K [v0] s)))))))
 (.seq (.seq (.reg [] fun c r s K => h_op4_bad n102 c r s fun _ s => K [] s)
 (.block n4 (.loop (.seq (.reg [q54] fun c r s K => h_op4_bad n102 c r s fun _ s => xE n0 (r q53) c r s fun v1 s => K [v1] s)
 (.seq (.cond (.t q54) .skip
 (.exit n4))
 (.block n5 (.seq (.reg [q11] fun c r s K => h_op4_bad n102 c r s fun _ s => xE n1 (r q55) c r s fun v1 s => K [v1] s)
 (.seq (.reg [q58] fun c r s K => binK .neq (r q11) I0 fun v0 => K [v0] s)
 (.cond (.t q58) (.seq (.reg [q6] fun c r s K => K [ff] s)
 .ret)
 .skip)))))))))
 (.seq (.reg [q6] fun c r s K => K [tt] s)
 .ret))))), [(.tmp q6)], [q0, q1, q2], [q12, q13, q14, q18, q19, q20, q24, q25, q26, q27, q28, q29, q30, q31, q32, q33, q34, q35, q36, q37, q38, q39, q40, q41, q42, q43, q44, q45, q46, q47, q48, q49, q50, q51, q56, q57]⟩
/- attestor/system.at -/
noncomputable def cf246 : HF := ⟨
(.seq (.reg [q3, q4, q6] fun c r s K => bxx s (r q0) fun v0 s => bxx s (r q1) fun v1 s => alc s [zn, zn, zn, zn, zn, zn, zn] fun v2 s => K [v0, v1, v2] s)
 (.seq (.drw [] fun c r s K => (fun z m => fad n1 (r q4) fun v0 => dL z m n2 n1 s v0 fun v1 m s => dw3 m n8 n7 s (fun s q => c (nat_lit 355) [v1, (r q2)] s q) fun v2 m s => fad n1 (r q4) fun v3 => dL z m n32 n16 s v3 fun v4 m s => binK .add (r q2) I1 fun v5 => fad n1 (r q3) fun v6 => dL z m (nat_lit 512) (nat_lit 256) s v6 fun v7 m s => xS true I1 v7 c r s fun v8 s => binK .rem v5 v8 fun v9 => dw3 m (nat_lit 4096) (nat_lit 4095) s (fun s q => c (nat_lit 355) [v4, v9] s q) fun v10 m s => fad n4 (r q3) fun v11 => dL z m (nat_lit 16384) (nat_lit 8192) s v11 fun v12 m s => dw3 m (nat_lit 65536) (nat_lit 65535) s (fun s q => c (nat_lit 355) [v12, (r q2)] s q) fun v13 m s => fad n0 (r q4) fun v14 => dL z m (nat_lit 262144) (nat_lit 131072) s v14 fun v15 m s => dw3 m (nat_lit 524288) (nat_lit 524287) s (fun s q => c (nat_lit 203) [v15] s q) fun v16 m s => h_op3_build [zn, zn, zn, zn, zn, zn, zn] [(n0, n1, (.c v2)), (n1, n1, (.c v10)), (n2, n1, (.c v13)), (n3, n1, (.c v16))] c r s fun v17 s => dS z m (nat_lit 2097152) (nat_lit 2097151) s n7 (r q6) v17 fun _ m s => K [] s) s.next mk0)
 .ret)), [(.cellN n7 q6)], [q0, q1, q2], [q7, q8, q9, q10, q11, q12, q13, q14, q15, q16, q17, q18, q19, q20, q21, q22, q23, q24, q25, q26, q27]⟩
/- slices.Clone[[]uint64,uint64] -/
noncomputable def cf203 : HF := ⟨
(.seq (.reg [q2] fun c r s K => K [(.sc zn)] s)
 (.seq (.seq (.reg [q4] fun c r s K => h_op4_eqv .slice false (.c (r q0)) (.c (.sc zn)) c r s fun v0 s => K [v0] s)
 (.cond (.t q4) (.seq (.reg [q2] fun c r s K => K [(.sc zn)] s)
 .ret)
 .skip))
 (.seq (.reg [q2] fun c r s K => h_op3_buildS n0 n1 [] [] c r s fun v0 s => xA n1 n8 v0 (r q0) c r s fun v1 s => K [v1] s)
 .ret))), [(.tmp q2)], [q0], [q3, q5, q6, q7]⟩
/- attestor/system.row -/
noncomputable def cf355 : HF := ⟨
(.seq (.reg [q4] fun c r s K => K [(.sc zn)] s)
 (.seq (.reg [q5] fun c r s K => lnS (r q0) fun v0 => xM n1 n8 [zu] v0 v0 c r s fun v1 s => K [v1] s)
 (.seq (.seq (.reg [q11, q12, q13] fun c r s K => lnS (r q0) fun v0 => K [(r q0), v0, I0] s)
 (.block n0 (.loop (.seq (.reg [q14] fun c r s K => binK .lss (r q13) (r q12) fun v0 => K [v0] s)
 (.seq (.cond (.t q14) .skip
 (.exit n0))
 (.seq (.block n1 (.seq (.reg [q6, q7] fun c r s K => ixs n1 (r q11) (r q13) fun v0 => ld s v0 fun v1 => K [(r q13), v1] s)
 (.reg [] fun c r s K => ixs n1 (r q7) (r q1) fun v0 => ld s v0 fun v1 => ixs n1 (r q5) (r q6) fun v2 => sto s n1 v2 v1 fun s => K [] s)))
 (.reg [q13] fun c r s K => binK .add (r q13) I1 fun v0 => K [v0] s)))))))
 (.seq (.reg [q4] fun c r s K => K [(r q5)] s)
 .ret)))), [(.tmp q4)], [q0, q1], [q8, q9, q10, q15, q16, q17, q18, q19, q20, q21, q22, q23, q24, q25, q26]⟩
/- attestor/system.span -/
noncomputable def cf244 : HF := ⟨
(.seq (.reg [q4, q5] fun c r s K => K [I0, I0] s)
 (.seq (.seq (.reg [q6] fun c r s K => K [(r q0)] s)
 (.block n0 (.seq (.reg [q7] fun c r s K => binK .eql (r q6) B2 fun v0 => K [v0] s)
 (.cond (.t q7) (.seq (.reg [q4, q5] fun c r s K => binK .sub (r q1) I1 fun v0 => K [I0, v0] s)
 .ret)
 (.seq (.reg [q11] fun c r s K => binK .eql (r q6) B3 fun v0 => K [v0] s)
 (.cond (.t q11) (.seq (.reg [q4, q5] fun c r s K => K [I0, I1] s)
 .ret)
 (.seq (.reg [q13] fun c r s K => binK .eql (r q6) B4 fun v0 => K [v0] s)
 (.cond (.t q13) (.seq (.reg [q4, q5] fun c r s K => binK .sub (r q1) I1 fun v0 => K [v0, (r q1)] s)
 .ret)
 .skip))))))))
 (.seq (.reg [q4, q5] fun c r s K => K [I0, (r q1)] s)
 .ret))), [(.tmp q4), (.tmp q5)], [q0, q1], [q8, q9, q10, q12, q14, q15, q16, q17, q18]⟩
/- attestor/system.Fits -/
noncomputable def cf48 : HF := ⟨
(.seq (.reg [q2, q3, q4] fun c r s K => bxx s (r q0) fun v0 s => bxx s (r q1) fun v1 s => K [v0, v1, ff] s)
 (.seq (.drw [q4] fun c r s K => (fun z m => dN z m n1 n0 s n8 (r q2) fun v0 m s => dw3 m n2 n1 s (fun s q => c n118 [v0] s q) fun v1 m s => jnD true v1 (fun jj => fad n0 (r q3) fun v => jj v m s) m s fun v2 m s => jnD true v1 (fun jj => dL z m n16 n15 s v2 jj) m s fun v3 m s => jnD true v1 (fun jj => lnS v3 fun v => jj v m s) m s fun v4 m s => jnD true v1 (fun jj => fad n3 (r q2) fun v => jj v m s) m s fun v5 m s => jnD true v1 (fun jj => dL z m n128 n71 s v5 jj) m s fun v6 m s => jnD true v1 (fun jj => binK .eql v4 v6 fun v => jj v m s) m s fun v7 m s => pck v1 v7 ff fun v8 => jnD true v8 (fun jj => fad n1 (r q3) fun v => jj v m s) m s fun v9 m s => jnD true v8 (fun jj => dL z m (nat_lit 4096) (nat_lit 4095) s v9 jj) m s fun v10 m s => jnD true v8 (fun jj => lnS v10 fun v => jj v m s) m s fun v11 m s => jnD true v8 (fun jj => fad n2 (r q2) fun v => jj v m s) m s fun v12 m s => jnD true v8 (fun jj => dL z m (nat_lit 32768) (nat_lit 18431) s v12 jj) m s fun v13 m s => jnD true v8 (fun jj => binK .eql v11 v13 fun v => jj v m s) m s fun v14 m s => pck v8 v14 ff fun v15 => jnD true v15 (fun jj => fad n0 (r q2) fun v => jj v m s) m s fun v16 m s => jnD true v15 (fun jj => dL z m (nat_lit 1048576) (nat_lit 1048575) s v16 jj) m s fun v17 m s => jnD true v15 (fun jj => fad n0 (r q3) fun v => jj v m s) m s fun v18 m s => jnD true v15 (fun jj => dL z m (nat_lit 4194304) (nat_lit 2621439) s v18 jj) m s fun v19 m s => jnD true v15 (fun jj => dw3 m (nat_lit 8388608) (nat_lit 8388607) s (fun s q => c n127 [v17, v19] s q) jj) m s fun v20 m s => pck v15 v20 ff fun v21 => jnD true v21 (fun jj => fad n0 (r q2) fun v => jj v m s) m s fun v22 m s => jnD true v21 (fun jj => dL z m (nat_lit 134217728) (nat_lit 134217727) s v22 jj) m s fun v23 m s => jnD true v21 (fun jj => fad n1 (r q2) fun v => jj v m s) m s fun v24 m s => jnD true v21 (fun jj => dL z m (nat_lit 536870912) (nat_lit 335544319) s v24 jj) m s fun v25 m s => jnD true v21 (fun jj => xS true I1 v25 c r s fun v s => jj v m s) m s fun v26 m s => jnD true v21 (fun jj => fad n1 (r q3) fun v => jj v m s) m s fun v27 m s => jnD true v21 (fun jj => dL z m (nat_lit 4294967296) (nat_lit 2214592511) s v27 jj) m s fun v28 m s => jnD true v21 (fun jj => dw3 m (nat_lit 8589934592) (nat_lit 8589934591) s (fun s q => c n128 [v23, v26, v28] s q) jj) m s fun v29 m s => pck v21 v29 ff fun v30 => K [v30] s) s.next mk0)
 .ret)), [(.tmp q4)], [q0, q1], [q5, q6, q7, q8, q9, q10, q11, q12, q13, q14, q15, q16, q17, q18, q19, q20, q21, q22, q23, q24, q25, q26, q27, q28, q29, q30, q31, q32, q33, q34, q35, q36, q37, q38, q39]⟩
/- attestor/prover.Possible -/
noncomputable def cf12 : HF := ⟨
(.seq (.reg [q2, q3, q4] fun c r s K => bxx s (r q0) fun v0 s => bxx s (r q1) fun v1 s => K [v0, v1, ff] s)
 (.seq (.seq (.reg [q32] fun c r s K => fad n1 (r q3) fun v0 => ld s v0 fun v1 => binK .lss v1 I0 fun v2 => jf v2 (fad n1 (r q3)) s fun v3 s => jf v2 (ld s v3) s fun v4 s => jf v2 (binK .gtr v4 I8) s fun v5 s => pck v2 tt v5 fun v6 => jf v6 (fad n2 (r q3)) s fun v7 s => jf v6 (ld s v7) s fun v8 s => jf v6 (binK .lss v8 I1) s fun v9 s => pck v6 tt v9 fun v10 => jf v10 (fad n2 (r q3)) s fun v11 s => jf v10 (ld s v11) s fun v12 s => jf v10 (binK .gtr v12 (i6 n64)) s fun v13 s => pck v10 tt v13 fun v14 => jf v14 (fad n3 (r q3)) s fun v15 s => jf v14 (ld s v15) s fun v16 s => jf v14 (binK .lss v16 I0) s fun v17 s => pck v14 tt v17 fun v18 => jf v18 (fad n3 (r q3)) s fun v19 s => jf v18 (ld s v19) s fun v20 s => jf v18 (binK .gtr v20 I20) s fun v21 s => pck v18 tt v21 fun v22 => K [v22] s)
 (.cond (.t q32) (.seq (.reg [q4] fun c r s K => K [ff] s)
 .ret)
 .skip))
 (.seq (.reg [q4] fun c r s K => lN s n8 (r q2) fun v0 => fad n0 (r q3) fun v1 => ld s v1 fun v2 => c n45 [v0, v2] s fun v3 s => K [v3] s)
 .ret))), [(.tmp q4)], [q0, q1], [q5, q6, q7, q8, q9, q10, q11, q12, q13, q14, q15, q16, q17, q18, q19, q20, q21, q22, q23, q24, q25, q26, q27, q28, q29, q30, q31, q33, q34, q35, q36]⟩
/- attestor/prover.NewKey -/
noncomputable def cf10 : HF := ⟨
(.seq (.reg [q2, q3, q4, q5] fun c r s K => bxx s (r q0) fun v0 s => bxx s (r q1) fun v1 s => alc s [zi, zi, zi, zi, zi, zi, zi, zi, zn, zn, zn, zn, zi, zn] fun v2 s => K [v0, v1, v2, I0] s)
 (.seq (.seq (.reg [q9] fun c r s K => lN s n8 (r q2) fun v0 => lN s n4 (r q3) fun v1 => c n12 [v0, v1] s fun v2 s => nott v2 fun v3 => K [v3] s)
 (.cond (.t q9) (.seq (.reg [q5] fun c r s K => h_op3_build [zi, zi, zi, zi, zi, zi, zi, zi, zn, zn, zn, zn, zi, zn] [] c r s fun v0 s => sto s n14 (r q4) v0 fun s => K [I1] s)
 .ret)
 .skip))
 (.seq (.drw [q5] fun c r s K => (fun z m => dN z m n1 n0 s n4 (r q3) fun v0 m s => dN z m n2 n0 s n8 (r q2) fun v1 m s => dw3 m n4 n2 s (fun s q => c n38 [v1] s q) fun v2 m s => fad n4 (r q2) fun v3 => dL z m n16 n8 s v3 fun v4 m s => lnS v4 fun v5 => dN z m n64 n0 s n8 (r q2) fun v6 m s => dN z m n128 n0 s n4 (r q3) fun v7 m s => dN z m (nat_lit 256) n0 s n8 (r q2) fun v8 m s => fad n0 (r q3) fun v9 => dL z m (nat_lit 1024) (nat_lit 512) s v9 fun v10 m s => fad n4 (r q2) fun v11 => dL z m (nat_lit 4096) (nat_lit 2048) s v11 fun v12 m s => dw3 m (nat_lit 8192) (nat_lit 7942) s (fun s q => c n40 [v8, v10, v12] s q) fun v13 m s => dw3 m (nat_lit 16384) (nat_lit 16326) s (fun s q => c n39 [v6, v7, v13] s q) fun v14 m s => dw3 m (nat_lit 32768) (nat_lit 32710) s (fun s q => c n41 [v14] s q) fun v15 m s => h_op3_build [zi, zi, zi, zi, zi, zi, zi, zi, zn, zn, zn, zn, zi, zn] [(n0, n4, (.c v0)), (n4, n8, (.c v2)), (n12, n1, (.c v5)), (n13, n1, (.c v15))] c r s fun v16 s => dS z m (nat_lit 131072) (nat_lit 131071) s n14 (r q4) v16 fun _ m s => K [I0] s) s.next mk0)
 .ret))), [(.cellN n14 q4), (.tmp q5)], [q0, q1], [q6, q7, q8, q10, q11, q12, q13, q14, q15, q16, q17, q18, q19, q20, q21, q22, q23, q24, q25, q26, q27]⟩
/- attestor/prover.bare -/
noncomputable def cf38 : HF := ⟨
(.seq (.reg [q1, q2] fun c r s K => bxx s (r q0) fun v0 s => alc s [zi, zi, zi, zi, zn, zn, zn, zn] fun v1 s => K [v0, v1] s)
 (.seq (.reg [] fun c r s K => fad n4 (r q1) fun v0 => sto s n1 v0 (.sc zn) fun s => K [] s)
 (.seq (.reg [] fun c r s K => fad n5 (r q1) fun v0 => ld s v0 fun v1 => c n103 [v1] s fun v2 s => fad n5 (r q1) fun v3 => sto s n1 v3 v2 fun s => K [] s)
 (.seq (.seq (.reg [q16, q17] fun c r s K => fad n5 (r q1) fun v0 => ld s v0 fun v1 => lnS v1 fun v2 => K [v2, I0] s)
 (.block n0 (.loop (.seq (.reg [q18] fun c r s K => binK .lss (r q17) (r q16) fun v0 => K [v0] s)
 (.seq (.cond (.t q18) .skip
 (.exit n0))
 (.seq (.block n1 (.seq (.reg [q3] fun c r s K => K [(r q17)] s)
 (.seq (.drw [] fun c r s K => (fun z m => fad n5 (r q1) fun v0 => dL z m n2 n1 s v0 fun v1 m s => fad n5 (r q1) fun v2 => dL z m n16 n8 s v2 fun v3 m s => ixs n2 v3 (r q3) fun v4 => fad n1 v4 fun v5 => dL z m (nat_lit 256) (nat_lit 248) s v5 fun v6 m s => dw3 m (nat_lit 512) (nat_lit 504) s (fun s q => c n104 [v6] s q) fun v7 m s => ixs n2 v1 (r q3) fun v8 => fad n1 v8 fun v9 => dS z m (nat_lit 4096) (nat_lit 4095) s n1 v9 v7 fun _ m s => K [] s) s.next mk0)
 (.seq (.reg [q38, q39] fun c r s K => fad n5 (r q1) fun v0 => ld s v0 fun v1 => ixs n2 v1 (r q3) fun v2 => fad n1 v2 fun v3 => ld s v3 fun v4 => lnS v4 fun v5 => K [v5, I0] s)
 (.block n2 (.loop (.seq (.reg [q40] fun c r s K => binK .lss (r q39) (r q38) fun v0 => K [v0] s)
 (.seq (.cond (.t q40) .skip
 (.exit n2))
 (.seq (.block n3 (.seq (.reg [q4] fun c r s K => K [(r q39)] s)
 (.drw [] fun c r s K => (fun z m => fad n5 (r q1) fun v0 => dL z m n2 n1 s v0 fun v1 m s => ixs n2 v1 (r q3) fun v2 => fad n1 v2 fun v3 => dL z m n32 n31 s v3 fun v4 m s => fad n5 (r q1) fun v5 => dL z m (nat_lit 256) n128 s v5 fun v6 m s => ixs n2 v6 (r q3) fun v7 => fad n1 v7 fun v8 => dL z m (nat_lit 4096) (nat_lit 3968) s v8 fun v9 m s => ixs n2 v9 (r q4) fun v10 => fad n1 v10 fun v11 => dL z m (nat_lit 65536) (nat_lit 65408) s v11 fun v12 m s => dw3 m (nat_lit 131072) (nat_lit 130944) s (fun s q => c n105 [v12] s q) fun v13 m s => ixs n2 v4 (r q4) fun v14 => fad n1 v14 fun v15 => dS z m (nat_lit 1048576) (nat_lit 1048575) s n1 v15 v13 fun _ m s => K [] s) s.next mk0)))
 (.reg [q39] fun c r s K => binK .add (r q39) I1 fun v0 => K [v0] s))))))))))
 (.reg [q17] fun c r s K => binK .add (r q17) I1 fun v0 => K [v0] s)))))))
 (.seq (.reg [q5] fun c r s K => K [(.sc (.fn n106))] s)
 (.seq (.reg [] fun c r s K => fad n6 (r q1) fun v0 => ld s v0 fun v1 => c n108 [v1] s fun v2 s => fad n6 (r q1) fun v3 => sto s n1 v3 v2 fun s => K [] s)
 (.seq (.seq (.reg [q69, q70, q71] fun c r s K => fad n6 (r q1) fun v0 => ld s v0 fun v1 => lnS v1 fun v2 => K [v1, v2, I0] s)
 (.block n4 (.loop (.seq (.reg [q72] fun c r s K => binK .lss (r q71) (r q70) fun v0 => K [v0] s)
 (.seq (.cond (.t q72) .skip
 (.exit n4))
 (.seq (.block n5 (.seq (.reg [q7, q6] fun c r s K => ixs n2 (r q69) (r q71) fun v0 => lN s n2 v0 fun v1 => alc s [zn, zn] fun v2 s => sto s n2 v2 v1 fun s => K [v2, (r q71)] s)
 (.drw [] fun c r s K => (fun z m => fad n6 (r q1) fun v0 => dL z m n2 n1 s v0 fun v1 m s => fad n0 (r q7) fun v2 => dL z m n32 n16 s v2 fun v3 m s => dw3 m n64 n56 s (fun s q => h_op4_callV (.c (r q5)) [(.c v3)] c r s q) fun v4 m s => fad n1 (r q7) fun v5 => dL z m (nat_lit 512) (nat_lit 256) s v5 fun v6 m s => dw3 m (nat_lit 1024) (nat_lit 1016) s (fun s q => h_op4_callV (.c (r q5)) [(.c v6)] c r s q) fun v7 m s => h_op3_build [zn, zn] [(n0, n1, (.c v4)), (n1, n1, (.c v7))] c r s fun v8 s => ixs n2 v1 (r q6) fun v9 => dS z m (nat_lit 8192) (nat_lit 8191) s n2 v9 v8 fun _ m s => K [] s) s.next mk0)))
 (.reg [q71] fun c r s K => binK .add (r q71) I1 fun v0 => K [v0] s)))))))
 (.seq (.reg [] fun c r s K => fad n7 (r q1) fun v0 => ld s v0 fun v1 => c n109 [v1] s fun v2 s => fad n7 (r q1) fun v3 => sto s n1 v3 v2 fun s => K [] s)
 (.seq (.seq (.reg [q96, q97] fun c r s K => fad n7 (r q1) fun v0 => ld s v0 fun v1 => lnS v1 fun v2 => K [v2, I0] s)
 (.block n6 (.loop (.seq (.reg [q98] fun c r s K => binK .lss (r q97) (r q96) fun v0 => K [v0] s)
 (.seq (.cond (.t q98) .skip
 (.exit n6))
 (.seq (.block n7 (.seq (.reg [q8] fun c r s K => K [(r q97)] s)
 (.seq (.drw [] fun c r s K => (fun z m => fad n7 (r q1) fun v0 => dL z m n2 n1 s v0 fun v1 m s => fad n7 (r q1) fun v2 => dL z m n16 n8 s v2 fun v3 m s => ixs n4 v3 (r q8) fun v4 => fad n0 v4 fun v5 => dL z m (nat_lit 256) (nat_lit 248) s v5 fun v6 m s => dw3 m (nat_lit 512) (nat_lit 504) s (fun s q => c n105 [v6] s q) fun v7 m s => ixs n4 v1 (r q8) fun v8 => fad n0 v8 fun v9 => dS z m (nat_lit 4096) (nat_lit 4095) s n1 v9 v7 fun _ m s => K [] s) s.next mk0)
 (.drw [] fun c r s K => (fun z m => fad n7 (r q1) fun v0 => dL z m n2 n1 s v0 fun v1 m s => fad n7 (r q1) fun v2 => dL z m n16 n8 s v2 fun v3 m s => ixs n4 v3 (r q8) fun v4 => fad n1 v4 fun v5 => dL z m (nat_lit 256) (nat_lit 248) s v5 fun v6 m s => dw3 m (nat_lit 512) (nat_lit 504) s (fun s q => c n105 [v6] s q) fun v7 m s => ixs n4 v1 (r q8) fun v8 => fad n1 v8 fun v9 => dS z m (nat_lit 4096) (nat_lit 4095) s n1 v9 v7 fun _ m s => K [] s) s.next mk0))))
 (.reg [q97] fun c r s K => binK .add (r q97) I1 fun v0 => K [v0] s)))))))
 (.seq (.reg [] fun c r s K => lN s n8 (r q1) fun v0 => sto s n8 (r q2) v0 fun s => K [] s)
 .ret)))))))))), [(.cellN n8 q2)], [q0], [q9, q10, q11, q12, q13, q14, q15, q19, q20, q21, q22, q23, q24, q25, q26, q27, q28, q29, q30, q31, q32, q33, q34, q35, q36, q37, q41, q42, q43, q44, q45, q46, q47, q48, q49, q50, q51, q52, q53, q54, q55, q56, q57, q58, q59, q60, q61, q62, q63, q64, q65, q66, q67, q68, q73, q74, q75, q76, q77, q78, q79, q80, q81, q82, q83, q84, q85, q86, q87, q88, q89, q90, q91, q92, q93, q94, q95, q99, q100, q101, q102, q103, q104, q105, q106, q107, q108, q109, q110, q111, q112, q113, q114, q115, q116, q117, q118, q119, q120, q121, q122, q123, q124, q125]⟩
/- slices.Clone[[]attestor/api.Lookup,attestor/api.Lookup] -/
noncomputable def cf109 : HF := ⟨
(.seq (.reg [q2] fun c r s K => K [(.sc zn)] s)
 (.seq (.seq (.reg [q4] fun c r s K => h_op4_eqv .slice false (.c (r q0)) (.c (.sc zn)) c r s fun v0 s => K [v0] s)
 (.cond (.t q4) (.seq (.reg [q2] fun c r s K => K [(.sc zn)] s)
 .ret)
 .skip))
 (.seq (.reg [q2] fun c r s K => h_op3_buildS n0 n4 [] [] c r s fun v0 s => xA n4 n64 v0 (r q0) c r s fun v1 s => K [v1] s)
 .ret))), [(.tmp q2)], [q0], [q3, q5, q6, q7]⟩
/- slices.Clone[[]attestor/api.Perm,attestor/api.Perm] -/
noncomputable def cf108 : HF := ⟨
(.seq (.reg [q2] fun c r s K => K [(.sc zn)] s)
 (.seq (.seq (.reg [q4] fun c r s K => h_op4_eqv .slice false (.c (r q0)) (.c (.sc zn)) c r s fun v0 s => K [v0] s)
 (.cond (.t q4) (.seq (.reg [q2] fun c r s K => K [(.sc zn)] s)
 .ret)
 .skip))
 (.seq (.reg [q2] fun c r s K => h_op3_buildS n0 n2 [] [] c r s fun v0 s => xA n2 n48 v0 (r q0) c r s fun v1 s => K [v1] s)
 .ret))), [(.tmp q2)], [q0], [q3, q5, q6, q7]⟩
/- attestor/prover.bare$1 -/
noncomputable def cf106 : HF := ⟨
(.seq (.reg [q2] fun c r s K => K [(.sc zn)] s)
 (.seq (.reg [q0] fun c r s K => c n107 [(r q0)] s fun v0 s => K [v0] s)
 (.seq (.seq (.reg [q7, q8] fun c r s K => lnS (r q0) fun v0 => K [v0, I0] s)
 (.block n0 (.loop (.seq (.reg [q9] fun c r s K => binK .lss (r q8) (r q7) fun v0 => K [v0] s)
 (.seq (.cond (.t q9) .skip
 (.exit n0))
 (.seq (.block n1 (.seq (.reg [q3] fun c r s K => K [(r q8)] s)
 (.reg [] fun c r s K => ixs n1 (r q0) (r q3) fun v0 => ld s v0 fun v1 => c n105 [v1] s fun v2 s => ixs n1 (r q0) (r q3) fun v3 => sto s n1 v3 v2 fun s => K [] s)))
 (.reg [q8] fun c r s K => binK .add (r q8) I1 fun v0 => K [v0] s)))))))
 (.seq (.reg [q2] fun c r s K => K [(r q0)] s)
 .ret)))), [(.tmp q2)], [q0], [q4, q5, q6, q10, q11, q12, q13, q14, q15, q16, q17, q18, q19, q20]⟩
/- slices.Clone[[][]attestor/api.Var,[]attestor/api.Var] -/
noncomputable def cf107 : HF := ⟨
(.seq (.reg [q2] fun c r s K => K [(.sc zn)] s)
 (.seq (.seq (.reg [q4] fun c r s K => h_op4_eqv .slice false (.c (r q0)) (.c (.sc zn)) c r s fun v0 s => K [v0] s)
 (.cond (.t q4) (.seq (.reg [q2] fun c r s K => K [(.sc zn)] s)
 .ret)
 .skip))
 (.seq (.reg [q2] fun c r s K => h_op3_buildS n0 n1 [] [] c r s fun v0 s => xA n1 n24 v0 (r q0) c r s fun v1 s => K [v1] s)
 .ret))), [(.tmp q2)], [q0], [q3, q5, q6, q7]⟩
/- slices.Clone[[]attestor/api.Var,attestor/api.Var] -/
noncomputable def cf105 : HF := ⟨
(.seq (.reg [q2] fun c r s K => K [(.sc zn)] s)
 (.seq (.seq (.reg [q4] fun c r s K => h_op4_eqv .slice false (.c (r q0)) (.c (.sc zn)) c r s fun v0 s => K [v0] s)
 (.cond (.t q4) (.seq (.reg [q2] fun c r s K => K [(.sc zn)] s)
 .ret)
 .skip))
 (.seq (.reg [q2] fun c r s K => h_op3_buildS n0 n2 [] [] c r s fun v0 s => xA n2 n16 v0 (r q0) c r s fun v1 s => K [v1] s)
 .ret))), [(.tmp q2)], [q0], [q3, q5, q6, q7]⟩
/- slices.Clone[[]attestor/api.Mono,attestor/api.Mono] -/
noncomputable def cf104 : HF := ⟨
(.seq (.reg [q2] fun c r s K => K [(.sc zn)] s)
 (.seq (.seq (.reg [q4] fun c r s K => h_op4_eqv .slice false (.c (r q0)) (.c (.sc zn)) c r s fun v0 s => K [v0] s)
 (.cond (.t q4) (.seq (.reg [q2] fun c r s K => K [(.sc zn)] s)
 .ret)
 .skip))
 (.seq (.reg [q2] fun c r s K => h_op3_buildS n0 n2 [] [] c r s fun v0 s => xA n2 n32 v0 (r q0) c r s fun v1 s => K [v1] s)
 .ret))), [(.tmp q2)], [q0], [q3, q5, q6, q7]⟩
/- slices.Clone[[]attestor/api.Rule,attestor/api.Rule] -/
noncomputable def cf103 : HF := ⟨
(.seq (.reg [q2] fun c r s K => K [(.sc zn)] s)
 (.seq (.seq (.reg [q4] fun c r s K => h_op4_eqv .slice false (.c (r q0)) (.c (.sc zn)) c r s fun v0 s => K [v0] s)
 (.cond (.t q4) (.seq (.reg [q2] fun c r s K => K [(.sc zn)] s)
 .ret)
 .skip))
 (.seq (.reg [q2] fun c r s K => h_op3_buildS n0 n2 [] [] c r s fun v0 s => xA n2 n32 v0 (r q0) c r s fun v1 s => K [v1] s)
 .ret))), [(.tmp q2)], [q0], [q3, q5, q6, q7]⟩
/- attestor/attestorlaw18.counter -/
noncomputable def cf36 : HF := ⟨
(.seq (.reg [q0] fun c r s K => alc s [zi, zi, zi, zi, zn, zn, zn, zn] fun v0 s => K [v0] s)
 (.seq (.reg [q1, q2] fun c r s K => h_op3_build [zb, zi] [(n0, n1, (.c B1))] c r s fun v0 s => h_op3_build [zb, zi] [(n0, n1, (.c B2))] c r s fun v1 s => alc s [zb, zi] fun v2 s => alc s [zb, zi] fun v3 s => sto s n2 v2 v0 fun s => sto s n2 v3 v1 fun s => K [v2, v3] s)
 (.seq (.reg [] fun c r s K => lN s n2 (r q2) fun v0 => h_op3_buildS n1 n2 [zb, zi] [(n0, n2, (.c v0))] c r s fun v1 s => h_op3_build [zu, zn] [(n0, n1, (.c U1)), (n1, n1, (.c v1))] c r s fun v2 s => lN s n2 (r q1) fun v3 => h_op3_buildS n1 n2 [zb, zi] [(n0, n2, (.c v3))] c r s fun v4 s => h_op3_build [zu, zn] [(n0, n1, (.c (u6 n96))), (n1, n1, (.c v4))] c r s fun v5 s => h_op3_build [zu, zn] [(n0, n1, (.c (u6 n96)))] c r s fun v6 s => h_op3_buildS n3 n2 [zu, zn, zu, zn, zu, zn] [(n0, n2, (.c v2)), (n2, n2, (.c v5)), (n4, n2, (.c v6))] c r s fun v7 s => h_op3_build [zb, zn] [(n0, n1, (.c B2)), (n1, n1, (.c v7))] c r s fun v8 s => h_op3_buildS n1 n2 [zb, zn] [(n0, n2, (.c v8))] c r s fun v9 s => h_op3_build [zi, zi, zi, zi, zn, zn, zn, zn] [(n1, n1, (.c I2)), (n2, n1, (.c I1)), (n5, n1, (.c v9))] c r s fun v10 s => sto s n8 (r q0) v10 fun s => K [] s)
 .ret))), [(.cellN n8 q0)], [], [q3, q4, q5, q6, q7, q8, q9, q10, q11, q12, q13, q14, q15]⟩
/- attestor/verifier.Bytes -/
noncomputable def cf35 : HF := ⟨
(.seq (.reg [q3, q6, q7] fun c r s K => bxx s (r q0) fun v0 s => K [v0, I0, I0] s)
 (.seq (.seq (.reg [q9] fun c r s K => lN s n14 (r q3) fun v0 => c n24 [v0, (r q1)] s fun v1 s => xE n0 v1 c r s fun v2 s => xE n1 v1 c r s fun v3 s => alc s [zi, zu, zu, zu, zu] fun v4 s => sto s n5 v4 v2 fun s => K [v3] s)
 (.seq (.reg [q21] fun c r s K => binK .neq (r q9) I0 fun v0 => K [v0] s)
 (.cond (.t q21) (.seq (.reg [q6, q7] fun c r s K => K [(r q9), I0] s)
 .ret)
 .skip)))
 (.seq (.reg [q10, q11] fun c r s K => lN s n14 (r q3) fun v0 => c n21 [v0] s fun v1 s => xE n0 v1 c r s fun v2 s => xE n1 v1 c r s fun v3 s => alc s [zi, zi, zi, zi, zi, zi, zi, zi, zi] fun v4 s => sto s n9 v4 v2 fun s => K [v4, v3] s)
 (.seq (.seq (.reg [q29] fun c r s K => binK .neq (r q11) I0 fun v0 => K [v0] s)
 (.cond (.t q29) (.seq (.reg [q6, q7] fun c r s K => K [(r q11), I0] s)
 .ret)
 .skip))
 (.seq (.reg [q12, q13, q11] fun c r s K => lN s n9 (r q10) fun v0 => c n102 [v0, (r q2)] s fun v1 s => xE n0 v1 c r s fun v2 s => xE n1 v1 c r s fun v3 s => xE n2 v1 c r s fun v4 s => alc s [zn, zn, zn, zu, zn, zn, zu, zn] fun v5 s => sto s n8 v5 v2 fun s => K [v5, v3, v4] s)
 (.seq (.seq (.reg [q39] fun c r s K => binK .neq (r q11) I0 fun v0 => K [v0] s)
 (.cond (.t q39) (.seq (.reg [q6, q7] fun c r s K => K [(r q11), (r q13)] s)
 .ret)
 .skip))
 (.seq (.reg [q6, q7] fun c r s K => lN s n14 (r q3) fun v0 => lN s n8 (r q12) fun v1 => c n34 [v0, (r q1), v1] s fun v2 s => K [v2, I0] s)
 .ret))))))), [(.tmp q6), (.tmp q7)], [q0, q1, q2], [q15, q16, q17, q14, q18, q19, q8, q20, q22, q24, q25, q23, q26, q27, q28, q30, q32, q33, q34, q31, q35, q36, q37, q38, q40, q41, q42, q43, q44, q45]⟩
/- attestor/proof.Decode -/
noncomputable def cf102 : HF := ⟨
(.seq (.reg [q2, q4, q5, q6] fun c r s K => bxx s (r q0) fun v0 s => alc s [zn, zn, zn, zu, zn, zn, zu, zn] fun v1 s => K [v0, v1, I0, I0] s)
 (.seq (.seq (.reg [q17] fun c r s K => lN s n9 (r q2) fun v0 => c (nat_lit 206) [v0] s fun v1 s => nott v1 fun v2 => K [v2] s)
 (.cond (.t q17) (.seq (.reg [q5, q6] fun c r s K => h_op3_build [zn, zn, zn, zu, zn, zn, zu, zn] [] c r s fun v0 s => sto s n8 (r q4) v0 fun s => K [I0, I1] s)
 .ret)
 .skip))
 (.seq (.reg [q7] fun c r s K => lN s n9 (r q2) fun v0 => c (nat_lit 207) [v0] s fun v1 s => alc s [zn, zn, zn, zu, zn, zn, zu, zn] fun v2 s => sto s n8 v2 v1 fun s => K [v2] s)
 (.seq (.reg [q8] fun c r s K => K [I0] s)
 (.seq (.seq (.reg [q22, q23, q24] fun c r s K => lN s n9 (r q2) fun v0 => c (nat_lit 208) [v0] s fun v1 s => lnS v1 fun v2 => K [v1, v2, I0] s)
 (.block n0 (.loop (.seq (.reg [q25] fun c r s K => binK .lss (r q24) (r q23) fun v0 => K [v0] s)
 (.seq (.cond (.t q25) .skip
 (.exit n0))
 (.seq (.block n1 (.seq (.reg [q10] fun c r s K => ixs n4 (r q22) (r q24) fun v0 => lN s n4 v0 fun v1 => alc s [zb, zi, zi, zi] fun v2 s => sto s n4 v2 v1 fun s => K [v2] s)
 (.seq (.reg [q11] fun c r s K => fad n3 (r q10) fun v0 => ld s v0 fun v1 => xM n1 n8 [zu] I0 v1 c r s fun v2 s => K [v2] s)
 (.seq (.seq (.reg [q32, q33] fun c r s K => fad n3 (r q10) fun v0 => ld s v0 fun v1 => K [v1, I0] s)
 (.block n2 (.loop (.seq (.reg [q34] fun c r s K => binK .lss (r q33) (r q32) fun v0 => K [v0] s)
 (.seq (.cond (.t q34) .skip
 (.exit n2))
 (.seq (.block n3 (.seq (.seq (.reg [q39] fun c r s K => binK .add (r q8) I4 fun v0 => lnS (r q1) fun v1 => binK .gtr v0 v1 fun v2 => K [v2] s)
 (.cond (.t q39) (.seq (.reg [q5, q6] fun c r s K => h_op3_build [zn, zn, zn, zu, zn, zn, zu, zn] [] c r s fun v0 s => lnS (r q1) fun v1 => sto s n8 (r q4) v0 fun s => K [v1, I5] s)
 .ret)
 .skip))
 (.seq (.reg [q12] fun c r s K => K [U0] s)
 (.seq (.seq (.reg [q47, q48, q49] fun c r s K => binK .add (r q8) I4 fun v0 => h_op3_sliceS n1 (.c (r q1)) (some (.c (r q8))) (some (.c v0)) none c r s fun v1 s => lnS v1 fun v2 => K [v1, v2, I0] s)
 (.block n4 (.loop (.seq (.reg [q50] fun c r s K => binK .lss (r q49) (r q48) fun v0 => K [v0] s)
 (.seq (.cond (.t q50) .skip
 (.exit n4))
 (.seq (.block n5 (.seq (.reg [q13, q14] fun c r s K => ixs n1 (r q47) (r q49) fun v0 => ld s v0 fun v1 => K [(r q49), v1] s)
 (.reg [q12] fun c r s K => cnv .u64 (r q14) fun v0 => binK .mul I8 (r q13) fun v1 => xS true v0 v1 c r s fun v2 s => binK .or (r q12) v2 fun v3 => K [v3] s)))
 (.reg [q49] fun c r s K => binK .add (r q49) I1 fun v0 => K [v0] s)))))))
 (.seq (.seq (.reg [q66] fun c r s K => fad n0 (r q2) fun v0 => ld s v0 fun v1 => c n85 [v1] s fun v2 s => binK .geq (r q12) v2 fun v3 => K [v3] s)
 (.cond (.t q66) (.seq (.reg [q5, q6] fun c r s K => h_op3_build [zn, zn, zn, zu, zn, zn, zu, zn] [] c r s fun v0 s => sto s n8 (r q4) v0 fun s => K [(r q8), I2] s)
 .ret)
 .skip))
 (.seq (.reg [q11] fun c r s K => h_op3_buildS n1 n1 [zu] [(n0, n1, (.c (r q12)))] c r s fun v0 s => xA n1 n8 (r q11) v0 c r s fun v1 s => K [v1] s)
 (.reg [q8] fun c r s K => binK .add (r q8) I4 fun v0 => K [v0] s)))))))
 (.reg [q33] fun c r s K => binK .add (r q33) I1 fun v0 => K [v0] s)))))))
 (.drw [] fun c r s K => (fun z m => dw3 m n1 n0 s (fun s q => c (nat_lit 209) [] s q) fun v0 m s => fad n0 (r q10) fun v1 => dL z m n4 n2 s v1 fun v2 m s => ixs n1 v0 v2 fun v3 => dL z m n16 n15 s v3 fun v4 m s => dN z m n32 n0 s n4 (r q10) fun v5 m s => dw3 m n64 n63 s (fun s q => h_op4_callV (.c v4) [(.c (r q7)), (.c v5)] c r s q) fun v6 m s => dw3 m (nat_lit 256) (nat_lit 255) s (fun s q => c (nat_lit 210) [v6, (r q11)] s q) fun v7 m s => K [] s) s.next mk0)))))
 (.reg [q24] fun c r s K => binK .add (r q24) I1 fun v0 => K [v0] s)))))))
 (.seq (.seq (.reg [q89] fun c r s K => lnS (r q1) fun v0 => binK .lss (r q8) v0 fun v1 => K [v1] s)
 (.cond (.t q89) (.seq (.reg [q5, q6] fun c r s K => h_op3_build [zn, zn, zn, zu, zn, zn, zu, zn] [] c r s fun v0 s => sto s n8 (r q4) v0 fun s => K [(r q8), I3] s)
 .ret)
 .skip))
 (.seq (.reg [q5, q6] fun c r s K => lN s n8 (r q7) fun v0 => sto s n8 (r q4) v0 fun s => K [I0, I0] s)
 .ret))))))), [(.cellN n8 q4), (.tmp q5), (.tmp q6)], [q0, q1], [q15, q16, q18, q19, q20, q21, q26, q27, q28, q29, q30, q31, q35, q36, q37, q38, q40, q41, q42, q43, q44, q45, q46, q51, q52, q53, q54, q55, q56, q57, q58, q59, q60, q61, q62, q63, q64, q65, q67, q68, q69, q70, q71, q72, q73, q74, q75, q76, q77, q78, q79, q80, q81, q82, q83, q84, q85, q86, q87, q88, q90, q91, q92]⟩
/- (attestor/proof.list).set -/
noncomputable def cf210 : HF := ⟨
(.seq (.reg [q2] fun c r s K => bxx s (r q0) fun v0 s => K [v0] s)
 (.block n0 (.seq (.reg [q23] fun c r s K => fad n0 (r q2) fun v0 => ld s v0 fun v1 => h_op4_eqv .ptr true (.c v1) (.c (.sc .nilp)) c r s fun v2 s => K [v2] s)
 (.cond (.t q23) (.reg [] fun c r s K => fad n0 (r q2) fun v0 => ld s v0 fun v1 => xC v1 c r s fun v2 s => sto s n1 v2 (r q1) fun s => K [] s)
 (.seq (.reg [q31] fun c r s K => fad n2 (r q2) fun v0 => ld s v0 fun v1 => h_op4_eqv .ptr true (.c v1) (.c (.sc .nilp)) c r s fun v2 s => K [v2] s)
 (.cond (.t q31) (.drw [] fun c r s K => (fun z m => fad n2 (r q2) fun v0 => dL z m n2 n1 s v0 fun v1 m s => ixs n1 (r q1) I0 fun v2 => dL z m n16 n12 s v2 fun v3 m s => xC v1 c r s fun v4 s => dS z m n64 n63 s n1 v4 v3 fun _ m s => K [] s) s.next mk0)
 (.seq (.reg [q41] fun c r s K => fad n3 (r q2) fun v0 => ld s v0 fun v1 => h_op4_eqv .ptr true (.c v1) (.c (.sc .nilp)) c r s fun v2 s => K [v2] s)
 (.cond (.t q41) (.reg [] fun c r s K => fad n3 (r q2) fun v0 => ld s v0 fun v1 => xC v1 c r s fun v2 s => h_op3_sliceA n8 n1 (.c v2) none none none c r s fun v3 s => h_op3_copy n1 (.c v3) (.c (r q1)) c r s fun v4 s => K [] s)
 (.seq (.reg [] fun c r s K => fad n1 (r q2) fun v0 => ld s v0 fun v1 => xC v1 c r s fun v2 s => sto s n1 v2 (.sc zn) fun s => K [] s)
 (.seq (.reg [q9] fun c r s K => c (nat_lit 339) [(r q1), I2] s fun v0 s => K [v0] s)
 (.block n1 (.rng (nat_lit 210) n0 (.t q9) [q10] (.reg [q4] fun c r s K => K [(r q10)] s)
 (.block n2 (.drw [] fun c r s K => (fun z m => fad n1 (r q2) fun v0 => dL z m n2 n1 s v0 fun v1 m s => fad n1 (r q2) fun v2 => dL z m n8 n4 s v2 fun v3 m s => xC v3 c r s fun v4 s => dL z m n32 n28 s v4 fun v5 m s => h_op5_arrAt n2 (.c (r q4)) c r s fun v6 s => dN z m (nat_lit 256) (nat_lit 192) s n2 v6 fun v7 m s => dw1 m (nat_lit 512) (fun q => h_op3_buildS n1 n2 [zu, zu] [(n0, n2, (.c v7))] c r s q) fun v8 m s => dw5 z m (nat_lit 1024) (nat_lit 1020) s (.more (.more (.append n2 n16 (.c v5) (.c v8)))) r (fun s q => xA n2 n16 v5 v8 c r s q) fun v9 m s => xC v1 c r s fun v10 s => dS z m (nat_lit 4096) (nat_lit 4095) s n1 v10 v9 fun _ m s => K [] s) s.next mk0)))))))))))))), [], [q0, q1], [q24, q25, q26, q27, q28, q29, q30, q32, q33, q34, q35, q36, q37, q38, q39, q40, q42, q43, q44, q45, q46, q47, q48, q49, q50, q5, q6, q7, q8, q11, q12, q13, q14, q15, q16, q17, q18, q19, q20, q21, q22]⟩
/- slices.Chunk[[]uint64,uint64] -/
noncomputable def cf339 : HF := ⟨
(.seq (.reg [q2, q3, q4] fun c r s K => bxx s (r q0) fun v0 s => bxx s (r q1) fun v1 s => K [v0, v1, (.sc (.lit .nilFunc))] s)
 (.seq (.seq (.reg [q6] fun c r s K => ld s (r q3) fun v0 => binK .lss v0 I1 fun v1 => K [v1] s)
 (.cond (.t q6) (.reg [] fun c r s K => h_op4_iface n9 (.c (.sc (.lit (.string ⟨#[99, 97, 110, 110, 111, 116, 32, 98, 101, 32, 108, 101, 115, 115, 32, 116, 104, 97, 110, 32, 49]⟩)))) c r s fun v0 s => h_op4_bad n102 c r s fun _ s => K [] s)
 .skip))
 (.seq (.reg [q4] fun c r s K => h_op4_makeFunc (nat_lit 389) [(.c (r q2)), (.c (r q3))] c r s fun v0 s => K [v0] s)
 .ret))), [(.tmp q4)], [q0, q1], [q5, q7, q8]⟩
/- slices.Chunk[[]uint64,uint64]$1 -/
noncomputable def cf389 : HF := ⟨
(.seq (.reg [q4] fun c r s K => K [I0] s)
 (.block n0 (.loop (.seq (.seq (.reg [q9] fun c r s K => ld s (r q1) fun v0 => lnS v0 fun v1 => binK .lss (r q4) v1 fun v2 => K [v2] s)
 (.cond (.t q9) .skip
 (.exit n0)))
 (.seq (.block n1 (.seq (.drw [q5] fun c r s K => (fun z m => dL z m n1 n0 s (r q2) fun v0 m s => dL z m n2 n0 s (r q1) fun v1 m s => h_op3_sliceS n1 (.c v1) (some (.c (r q4))) none none c r s fun v2 s => lnS v2 fun v3 => h_op4_minmax false [(.c v0), (.c v3)] c r s fun v4 s => K [v4] s) s.next mk0)
 (.seq (.reg [q30] fun c r s K => ld s (r q1) fun v0 => binK .add (r q4) (r q5) fun v1 => binK .add (r q4) (r q5) fun v2 => h_op3_sliceS n1 (.c v0) (some (.c (r q4))) (some (.c v1)) (some (.c v2)) c r s fun v3 s => h_op4_callV (.c (r q0)) [(.c v3)] c r s fun v4 s => nott v4 fun v5 => K [v5] s)
 (.cond (.t q30) .ret
 .skip))))
 (.reg [q4] fun c r s K => ld s (r q2) fun v0 => binK .add (r q4) v0 fun v1 => K [v1] s)))))), [], [q0, q1, q2], [q6, q7, q8, q13, q14, q15, q16, q17, q18, q19, q20, q21, q22, q23, q24, q25, q26, q27, q28, q29, q10, q11, q12]⟩
/- attestor/proof.places -/
noncomputable def cf209 : HF := ⟨
(.seq (.reg [q0] fun c r s K => K [(.sc zn)] s)
 (.seq (.reg [q0] fun c r s K => h_op3_buildS n12 n1 [(.lit .nilFunc), (.lit .nilFunc), (.lit .nilFunc), (.lit .nilFunc), (.lit .nilFunc), (.lit .nilFunc), (.lit .nilFunc), (.lit .nilFunc), (.lit .nilFunc), (.lit .nilFunc), (.lit .nilFunc), (.lit .nilFunc)] [(n1, n1, (.c (.sc (.fn (nat_lit 328))))), (n2, n1, (.c (.sc (.fn (nat_lit 329))))), (n3, n1, (.c (.sc (.fn (nat_lit 330))))), (n4, n1, (.c (.sc (.fn (nat_lit 331))))), (n5, n1, (.c (.sc (.fn (nat_lit 332))))), (n6, n1, (.c (.sc (.fn (nat_lit 333))))), (n7, n1, (.c (.sc (.fn (nat_lit 334))))), (n8, n1, (.c (.sc (.fn (nat_lit 335))))), (n9, n1, (.c (.sc (.fn (nat_lit 336))))), (n10, n1, (.c (.sc (.fn (nat_lit 337))))), (n11, n1, (.c (.sc (.fn (nat_lit 338)))))] c r s fun v0 s => K [v0] s)
 .ret)), [(.tmp q0)], [], [q1]⟩
/- attestor/proof.places$11 -/
noncomputable def cf338 : HF := ⟨
(.seq (.reg [q3, q4] fun c r s K => bxx s (r q1) fun v0 s => alc s [.nilp, .nilp, .nilp, .nilp] fun v1 s => K [v0, v1] s)
 (.seq (.drw [] fun c r s K => (fun z m => xC (r q0) c r s fun v0 s => fad n7 v0 fun v1 => dL z m n8 n7 s v1 fun v2 m s => fad n1 (r q3) fun v3 => dL z m n32 n16 s v3 fun v4 m s => ixs n13 v2 v4 fun v5 => fad n12 v5 fun v6 => dL z m (nat_lit 256) (nat_lit 255) s v6 fun v7 m s => fad n2 (r q3) fun v8 => dL z m (nat_lit 1024) (nat_lit 512) s v8 fun v9 m s => ixs n9 v7 v9 fun v10 => fad n8 v10 fun v11 => h_op3_build [.nilp, .nilp, .nilp, .nilp] [(n1, n1, (.c v11))] c r s fun v12 s => dS z m (nat_lit 16384) (nat_lit 16383) s n4 (r q4) v12 fun _ m s => K [] s) s.next mk0)
 .ret)), [(.cellN n4 q4)], [q0, q1], [q5, q6, q7, q8, q9, q10, q11, q12, q13, q14, q15, q16, q17, q18]⟩
/- attestor/proof.places$10 -/
noncomputable def cf337 : HF := ⟨
(.seq (.reg [q3, q4] fun c r s K => bxx s (r q1) fun v0 s => alc s [.nilp, .nilp, .nilp, .nilp] fun v1 s => K [v0, v1] s)
 (.seq (.drw [] fun c r s K => (fun z m => xC (r q0) c r s fun v0 s => fad n7 v0 fun v1 => dL z m n8 n7 s v1 fun v2 m s => fad n1 (r q3) fun v3 => dL z m n32 n16 s v3 fun v4 m s => ixs n13 v2 v4 fun v5 => fad n12 v5 fun v6 => dL z m (nat_lit 256) (nat_lit 255) s v6 fun v7 m s => fad n2 (r q3) fun v8 => dL z m (nat_lit 1024) (nat_lit 512) s v8 fun v9 m s => ixs n9 v7 v9 fun v10 => fad n0 v10 fun v11 => h_op3_build [.nilp, .nilp, .nilp, .nilp] [(n3, n1, (.c v11))] c r s fun v12 s => dS z m (nat_lit 16384) (nat_lit 16383) s n4 (r q4) v12 fun _ m s => K [] s) s.next mk0)
 .ret)), [(.cellN n4 q4)], [q0, q1], [q5, q6, q7, q8, q9, q10, q11, q12, q13, q14, q15, q16, q17, q18]⟩
/- attestor/proof.places$9 -/
noncomputable def cf336 : HF := ⟨
(.seq (.reg [q3, q4] fun c r s K => bxx s (r q1) fun v0 s => alc s [.nilp, .nilp, .nilp, .nilp] fun v1 s => K [v0, v1] s)
 (.seq (.drw [q5] fun c r s K => (fun z m => xC (r q0) c r s fun v0 s => fad n7 v0 fun v1 => dL z m n8 n7 s v1 fun v2 m s => fad n1 (r q3) fun v3 => dL z m n32 n16 s v3 fun v4 m s => ixs n13 v2 v4 fun v5 => K [v5] s) s.next mk0)
 (.seq (.drw [] fun c r s K => (fun z m => xC (r q5) c r s fun v0 s => fad n6 v0 fun v1 => xC (r q5) c r s fun v2 s => fad n7 v2 fun v3 => xC (r q5) c r s fun v4 s => fad n8 v4 fun v5 => xC (r q5) c r s fun v6 s => fad n9 v6 fun v7 => xC (r q5) c r s fun v8 s => fad n10 v8 fun v9 => xC (r q5) c r s fun v10 s => fad n11 v10 fun v11 => h_op3_build [.nilp, .nilp, .nilp, .nilp, .nilp, .nilp] [(n0, n1, (.c v1)), (n1, n1, (.c v3)), (n2, n1, (.c v5)), (n3, n1, (.c v7)), (n4, n1, (.c v9)), (n5, n1, (.c v11))] c r s fun v12 s => fad n2 (r q3) fun v13 => dL z m (nat_lit 1048576) (nat_lit 524288) s v13 fun v14 m s => h_op2_idxV n6 n1 false (.c v12) (.c v14) c r s fun v15 s => h_op3_build [.nilp, .nilp, .nilp, .nilp] [(n1, n1, (.c v15))] c r s fun v16 s => dS z m (nat_lit 8388608) (nat_lit 8388607) s n4 (r q4) v16 fun _ m s => K [] s) s.next mk0)
 .ret))), [(.cellN n4 q4)], [q0, q1], [q6, q7, q8, q9, q10, q11, q12, q13, q14, q15, q16, q17, q18, q19, q20, q21, q22, q23, q24, q25, q26, q27, q28, q29, q30, q31, q32, q33, q34, q35]⟩
/- attestor/proof.places$8 -/
noncomputable def cf335 : HF := ⟨
(.seq (.reg [q3, q4] fun c r s K => bxx s (r q1) fun v0 s => alc s [.nilp, .nilp, .nilp, .nilp] fun v1 s => K [v0, v1] s)
 (.seq (.drw [q5] fun c r s K => (fun z m => xC (r q0) c r s fun v0 s => fad n7 v0 fun v1 => dL z m n8 n7 s v1 fun v2 m s => fad n1 (r q3) fun v3 => dL z m n32 n16 s v3 fun v4 m s => ixs n13 v2 v4 fun v5 => K [v5] s) s.next mk0)
 (.seq (.drw [] fun c r s K => (fun z m => xC (r q5) c r s fun v0 s => fad n0 v0 fun v1 => xC (r q5) c r s fun v2 s => fad n1 v2 fun v3 => xC (r q5) c r s fun v4 s => fad n2 v4 fun v5 => xC (r q5) c r s fun v6 s => fad n3 v6 fun v7 => xC (r q5) c r s fun v8 s => fad n4 v8 fun v9 => xC (r q5) c r s fun v10 s => fad n5 v10 fun v11 => h_op3_build [.nilp, .nilp, .nilp, .nilp, .nilp, .nilp] [(n0, n1, (.c v1)), (n1, n1, (.c v3)), (n2, n1, (.c v5)), (n3, n1, (.c v7)), (n4, n1, (.c v9)), (n5, n1, (.c v11))] c r s fun v12 s => fad n2 (r q3) fun v13 => dL z m (nat_lit 1048576) (nat_lit 524288) s v13 fun v14 m s => h_op2_idxV n6 n1 false (.c v12) (.c v14) c r s fun v15 s => h_op3_build [.nilp, .nilp, .nilp, .nilp] [(n0, n1, (.c v15))] c r s fun v16 s => dS z m (nat_lit 8388608) (nat_lit 8388607) s n4 (r q4) v16 fun _ m s => K [] s) s.next mk0)
 .ret))), [(.cellN n4 q4)], [q0, q1], [q6, q7, q8, q9, q10, q11, q12, q13, q14, q15, q16, q17, q18, q19, q20, q21, q22, q23, q24, q25, q26, q27, q28, q29, q30, q31, q32, q33, q34, q35]⟩
/- attestor/proof.places$7 -/
noncomputable def cf334 : HF := ⟨
(.seq (.reg [q4] fun c r s K => bxx s (r q1) fun v0 s => alc s [.nilp, .nilp, .nilp, .nilp] fun v1 s => K [v1] s)
 (.seq (.reg [] fun c r s K => xC (r q0) c r s fun v0 s => fad n6 v0 fun v1 => h_op3_build [.nilp, .nilp, .nilp, .nilp] [(n2, n1, (.c v1))] c r s fun v2 s => sto s n4 (r q4) v2 fun s => K [] s)
 .ret)), [(.cellN n4 q4)], [q0, q1], [q3, q5, q6, q7, q8]⟩
/- attestor/proof.places$6 -/
noncomputable def cf333 : HF := ⟨
(.seq (.reg [q4] fun c r s K => bxx s (r q1) fun v0 s => alc s [.nilp, .nilp, .nilp, .nilp] fun v1 s => K [v1] s)
 (.seq (.reg [] fun c r s K => xC (r q0) c r s fun v0 s => fad n5 v0 fun v1 => h_op3_build [.nilp, .nilp, .nilp, .nilp] [(n0, n1, (.c v1))] c r s fun v2 s => sto s n4 (r q4) v2 fun s => K [] s)
 .ret)), [(.cellN n4 q4)], [q0, q1], [q3, q5, q6, q7, q8]⟩
/- attestor/proof.places$5 -/
noncomputable def cf332 : HF := ⟨
(.seq (.reg [q3, q4] fun c r s K => bxx s (r q1) fun v0 s => alc s [.nilp, .nilp, .nilp, .nilp] fun v1 s => K [v0, v1] s)
 (.seq (.drw [] fun c r s K => (fun z m => xC (r q0) c r s fun v0 s => fad n4 v0 fun v1 => dL z m n8 n7 s v1 fun v2 m s => fad n2 (r q3) fun v3 => dL z m n32 n16 s v3 fun v4 m s => ixs n1 v2 v4 fun v5 => h_op3_build [.nilp, .nilp, .nilp, .nilp] [(n1, n1, (.c v5))] c r s fun v6 s => dS z m (nat_lit 256) (nat_lit 255) s n4 (r q4) v6 fun _ m s => K [] s) s.next mk0)
 .ret)), [(.cellN n4 q4)], [q0, q1], [q5, q6, q7, q8, q9, q10, q11, q12]⟩
/- attestor/proof.places$4 -/
noncomputable def cf331 : HF := ⟨
(.seq (.reg [q4] fun c r s K => bxx s (r q1) fun v0 s => alc s [.nilp, .nilp, .nilp, .nilp] fun v1 s => K [v1] s)
 (.seq (.reg [] fun c r s K => xC (r q0) c r s fun v0 s => fad n2 v0 fun v1 => h_op3_build [.nilp, .nilp, .nilp, .nilp] [(n1, n1, (.c v1))] c r s fun v2 s => sto s n4 (r q4) v2 fun s => K [] s)
 .ret)), [(.cellN n4 q4)], [q0, q1], [q3, q5, q6, q7, q8]⟩
/- attestor/proof.places$3 -/
noncomputable def cf330 : HF := ⟨
(.seq (.reg [q4] fun c r s K => bxx s (r q1) fun v0 s => alc s [.nilp, .nilp, .nilp, .nilp] fun v1 s => K [v1] s)
 (.seq (.reg [] fun c r s K => xC (r q0) c r s fun v0 s => fad n1 v0 fun v1 => h_op3_build [.nilp, .nilp, .nilp, .nilp] [(n1, n1, (.c v1))] c r s fun v2 s => sto s n4 (r q4) v2 fun s => K [] s)
 .ret)), [(.cellN n4 q4)], [q0, q1], [q3, q5, q6, q7, q8]⟩
/- attestor/proof.places$2 -/
noncomputable def cf329 : HF := ⟨
(.seq (.reg [q4] fun c r s K => bxx s (r q1) fun v0 s => alc s [.nilp, .nilp, .nilp, .nilp] fun v1 s => K [v1] s)
 (.seq (.reg [] fun c r s K => xC (r q0) c r s fun v0 s => fad n3 v0 fun v1 => h_op3_build [.nilp, .nilp, .nilp, .nilp] [(n2, n1, (.c v1))] c r s fun v2 s => sto s n4 (r q4) v2 fun s => K [] s)
 .ret)), [(.cellN n4 q4)], [q0, q1], [q3, q5, q6, q7, q8]⟩
/- attestor/proof.places$1 -/
noncomputable def cf328 : HF := ⟨
(.seq (.reg [q4] fun c r s K => bxx s (r q1) fun v0 s => alc s [.nilp, .nilp, .nilp, .nilp] fun v1 s => K [v1] s)
 (.seq (.reg [] fun c r s K => xC (r q0) c r s fun v0 s => fad n0 v0 fun v1 => h_op3_build [.nilp, .nilp, .nilp, .nilp] [(n1, n1, (.c v1))] c r s fun v2 s => sto s n4 (r q4) v2 fun s => K [] s)
 .ret)), [(.cellN n4 q4)], [q0, q1], [q3, q5, q6, q7, q8]⟩
/- attestor/proof.Parts -/
noncomputable def cf208 : HF := ⟨
(.seq (.reg [q1, q2] fun c r s K => bxx s (r q0) fun v0 s => K [v0, (.sc zn)] s)
 (.seq (.seq (.reg [q5] fun c r s K => lN s n9 (r q1) fun v0 => c (nat_lit 206) [v0] s fun v1 s => nott v1 fun v2 => K [v2] s)
 (.cond (.t q5) (.seq (.reg [q2] fun c r s K => K [(.sc zn)] s)
 .ret)
 .skip))
 (.seq (.reg [q2] fun c r s K => lN s n9 (r q1) fun v0 => c (nat_lit 313) [v0] s fun v1 s => c (nat_lit 326) [v1] s fun v2 s => c (nat_lit 325) [v2, (.sc (.fn (nat_lit 327)))] s fun v3 s => K [v3] s)
 .ret))), [(.tmp q2)], [q0], [q3, q4, q6, q7, q8, q9]⟩
/- attestor/proof.Parts$1 -/
noncomputable def cf327 : HF := ⟨
(.seq (.reg [q1, q2] fun c r s K => bxx s (r q0) fun v0 s => K [v0, ff] s)
 (.seq (.reg [q2] fun c r s K => fad n3 (r q1) fun v0 => ld s v0 fun v1 => binK .eql v1 I0 fun v2 => K [v2] s)
 .ret)), [(.tmp q2)], [q0], [q3, q4, q5]⟩
/- slices.DeleteFunc[[]attestor/api.Part,attestor/api.Part] -/
noncomputable def cf325 : HF := ⟨
(.seq (.reg [q4] fun c r s K => K [(.sc zn)] s)
 (.seq (.reg [q5] fun c r s K => c (nat_lit 387) [(r q0), (r q1)] s fun v0 s => K [v0] s)
 (.seq (.seq (.reg [q12] fun c r s K => binK .eql (r q5) (.sc (.int .i64 (.negSucc n0))) fun v0 => K [v0] s)
 (.cond (.t q12) (.seq (.reg [q4] fun c r s K => K [(r q0)] s)
 .ret)
 .skip))
 (.seq (.seq (.reg [q6] fun c r s K => binK .add (r q5) I1 fun v0 => K [v0] s)
 (.block n0 (.loop (.seq (.seq (.reg [q19] fun c r s K => lnS (r q0) fun v0 => binK .lss (r q6) v0 fun v1 => K [v1] s)
 (.cond (.t q19) .skip
 (.exit n0)))
 (.seq (.block n1 (.seq (.reg [q7] fun c r s K => ixs n4 (r q0) (r q6) fun v0 => lN s n4 v0 fun v1 => alc s [zb, zi, zi, zi] fun v2 s => sto s n4 v2 v1 fun s => K [v2] s)
 (.seq (.reg [q29] fun c r s K => lN s n4 (r q7) fun v0 => h_op4_callV (.c (r q1)) [(.c v0)] c r s fun v1 s => nott v1 fun v2 => K [v2] s)
 (.cond (.t q29) (.seq (.reg [] fun c r s K => lN s n4 (r q7) fun v0 => ixs n4 (r q0) (r q5) fun v1 => sto s n4 v1 v0 fun s => K [] s)
 (.reg [q5] fun c r s K => binK .add (r q5) I1 fun v0 => K [v0] s))
 .skip))))
 (.reg [q6] fun c r s K => binK .add (r q6) I1 fun v0 => K [v0] s))))))
 (.seq (.reg [] fun c r s K => h_op3_sliceS n4 (.c (r q0)) (some (.c (r q5))) none none c r s fun v0 s => h_op5_clearS n4 [zb, zi, zi, zi] (.c v0) c r s fun _ s => K [] s)
 (.seq (.reg [q4] fun c r s K => h_op3_sliceS n4 (.c (r q0)) none (some (.c (r q5))) none c r s fun v0 s => K [v0] s)
 .ret)))))), [(.tmp q4)], [q0, q1], [q8, q9, q10, q11, q13, q14, q15, q16, q17, q18, q22, q23, q24, q25, q26, q27, q28, q30, q31, q32, q33, q34, q35, q20, q21, q36, q37, q38, q39, q40, q41]⟩
/- slices.IndexFunc[[]attestor/api.Part,attestor/api.Part] -/
noncomputable def cf387 : HF := ⟨
(.seq (.reg [q4] fun c r s K => K [I0] s)
 (.seq (.seq (.reg [q7, q8] fun c r s K => lnS (r q0) fun v0 => K [v0, I0] s)
 (.block n0 (.loop (.seq (.reg [q9] fun c r s K => binK .lss (r q8) (r q7) fun v0 => K [v0] s)
 (.seq (.cond (.t q9) .skip
 (.exit n0))
 (.seq (.block n1 (.seq (.reg [q5] fun c r s K => K [(r q8)] s)
 (.seq (.reg [q16] fun c r s K => ixs n4 (r q0) (r q5) fun v0 => lN s n4 v0 fun v1 => h_op4_callV (.c (r q1)) [(.c v1)] c r s fun v2 s => K [v2] s)
 (.cond (.t q16) (.seq (.reg [q4] fun c r s K => K [(r q5)] s)
 .ret)
 .skip))))
 (.reg [q8] fun c r s K => binK .add (r q8) I1 fun v0 => K [v0] s)))))))
 (.seq (.reg [q4] fun c r s K => (fun v0 => K [v0] s) (.sc (.int .i64 (.negSucc n0))))
 .ret))), [(.tmp q4)], [q0, q1], [q6, q10, q11, q12, q13, q14, q15, q17, q18]⟩
/- slices.Collect[attestor/api.Part] -/
noncomputable def cf326 : HF := ⟨
(.seq (.reg [q2] fun c r s K => K [(.sc zn)] s)
 (.seq (.reg [q2] fun c r s K => c (nat_lit 388) [(.sc zn), (r q0)] s fun v0 s => K [v0] s)
 .ret)), [(.tmp q2)], [q0], [q3, q4]⟩
/- slices.AppendSeq[[]attestor/api.Part,attestor/api.Part] -/
noncomputable def cf388 : HF := ⟨
(.seq (.reg [q2, q4] fun c r s K => bxx s (r q0) fun v0 s => K [v0, (.sc zn)] s)
 (.seq (.seq (.reg [q6] fun c r s K => K [(r q1)] s)
 (.block n0 (.rng (nat_lit 388) n0 (.t q6) [q7] (.reg [q5] fun c r s K => alc s [zb, zi, zi, zi] fun v0 s => sto s n4 v0 (r q7) fun s => K [v0] s)
 (.block n1 (.reg [] fun c r s K => ld s (r q2) fun v0 => lN s n4 (r q5) fun v1 => h_op3_buildS n1 n4 [zb, zi, zi, zi] [(n0, n4, (.c v1))] c r s fun v2 s => xA n4 n32 v0 v2 c r s fun v3 s => sto s n1 (r q2) v3 fun s => K [] s)))))
 (.seq (.reg [q4] fun c r s K => ld s (r q2) fun v0 => K [v0] s)
 .ret))), [(.tmp q4)], [q0, q1], [q8, q9, q10, q11, q12]⟩
/- attestor/proof.all -/
noncomputable def cf313 : HF := ⟨
(.seq (.reg [q1, q2] fun c r s K => bxx s (r q0) fun v0 s => K [v0, (.sc (.lit .nilFunc))] s)
 (.seq (.reg [q2] fun c r s K => h_op4_makeFunc (nat_lit 380) [(.c (r q1))] c r s fun v0 s => K [v0] s)
 .ret)), [(.tmp q2)], [q0], [q3]⟩
end Go.Proofs.YtebbnkahklbhiaaGreatDoor.Ev
