/- Compiled functions of the translated program, and that each is what the compiler makes of it; no conditions. -/
import Derived.Test.YtphindkhkcncdaaDoorEvC
import Derived.KernelRfl
namespace Go.Proofs.YtphindkhkcncdaaDoor.Ev
set_option maxRecDepth 100000
set_option linter.unusedVariables false
/- attestor/attestorlaw29.TraceReads -/
noncomputable def cf3 : HF := ⟨
(.seq (.reg [q1, q2] fun c r s K => bxx s (r q0) fun v0 s => K [v0, ff] s)
 (.seq (.reg [] fun c r s K => lN s n2 (r q1) fun v0 => c n4 [v0] s fun v1 s => sto s n2 (r q1) v1 fun s => K [] s)
 (.seq (.reg [q3, q4] fun c r s K => lN s n2 (r q1) fun v0 => c n5 [v0] s fun v1 s => xE n0 v1 c r s fun v2 s => xE n1 v1 c r s fun v3 s => K [v2, v3] s)
 (.seq (.reg [q5, q6] fun c r s K => lN s n2 (r q1) fun v0 => c n6 [v0] s fun v1 s => xE n0 v1 c r s fun v2 s => xE n1 v1 c r s fun v3 s => K [v2, v3] s)
 (.seq (.reg [q2] fun c r s K => binK .eql (r q4) (r q6) fun v0 => mt v0 (r q3) s fun v1 s => mt v0 (r q5) s fun v2 s => jn true v0 (fun j => c n7 [v1, v2] s j) s fun v3 s => pck v0 v3 ff fun v4 => jn true v4 (fun j => c n8 [] s j) s fun v5 s => pck v4 v5 ff fun v6 => K [v6] s)
 .ret))))), [(.tmp q2)], [q0], [q7, q8, q10, q11, q9, q12, q13, q15, q16, q14, q17, q18, q19, q20, q21, q22, q23, q24, q25, q26, q27, q28, q29]⟩
/- attestor/attestorlaw29.lives -/
noncomputable def cf8 : HF := ⟨
(.seq (.reg [q0] fun c r s K => K [ff] s)
 (.seq (.reg [q1, q2] fun c r s K => c n12 [] s fun v0 s => h_op3_build [zb, zb, zb, zb] [(n0, n1, (.c B1)), (n1, n1, (.c B2)), (n2, n1, (.c B3)), (n3, n1, (.c B4))] c r s fun v1 s => c n11 [v0, v1, I4] s fun v2 s => xE n0 v2 c r s fun v3 s => xE n1 v2 c r s fun v4 s => alc s [zn, zn] fun v5 s => sto s n2 v5 v3 fun s => K [v5, v4] s)
 (.seq (.seq (.reg [q32] fun c r s K => binK .neq (r q2) I0 fun v0 => jf v0 (fad n1 (r q1)) s fun v1 s => jf v0 (ld s v1) s fun v2 s => jf v0 (lnS v2) s fun v3 s => jf v0 (binK .neq v3 (i6 n50)) s fun v4 s => pck v0 tt v4 fun v5 => jf v5 (fad n1 (r q1)) s fun v6 s => jf v5 (ld s v6) s fun v7 s => jf v5 (ixs n1 v7 I25) s fun v8 s => jf v5 (ld s v8) s fun v9 s => jf v5 (lnS v9) s fun v10 s => jf v5 (binK .neq v10 I16) s fun v11 s => pck v5 tt v11 fun v12 => jf v12 (fad n0 (r q1)) s fun v13 s => jf v12 (ld s v13) s fun v14 s => jf v12 (lnS v14) s fun v15 s => jf v12 (binK .neq v15 I8) s fun v16 s => pck v12 tt v16 fun v17 => K [v17] s)
 (.cond (.t q32) (.seq (.reg [q0] fun c r s K => K [ff] s)
 .ret)
 .skip))
 (.seq (.reg [q3, q4] fun c r s K => c n12 [] s fun v0 s => c n13 [v0, I4] s fun v1 s => xE n0 v1 c r s fun v2 s => xE n1 v1 c r s fun v3 s => alc s [zi, zi, zi, zi, zn, zn, zn, zn] fun v4 s => sto s n8 v4 v2 fun s => K [v4, v3] s)
 (.seq (.reg [q0] fun c r s K => binK .eql (r q4) I0 fun v0 => jt v0 (fad n2 (r q3)) s fun v1 s => jt v0 (ld s v1) s fun v2 s => jt v0 (binK .eql v2 (i6 n50)) s fun v3 s => pck v0 v3 ff fun v4 => jt v4 (fad n5 (r q3)) s fun v5 s => jt v4 (ld s v5) s fun v6 s => jt v4 (lnS v6) s fun v7 s => jt v4 (binK .eql v7 (i6 n57)) s fun v8 s => pck v4 v8 ff fun v9 => jt v9 (fad n0 (r q1)) s fun v10 s => jt v9 (ld s v10) s fun v11 s => jt v9 (ixs n1 v11 I4) s fun v12 s => jt v9 (ld s v12) s fun v13 s => jt v9 (binK .eql v13 U7) s fun v14 s => pck v9 v14 ff fun v15 => jt v15 (fad n1 (r q1)) s fun v16 s => jt v15 (ld s v16) s fun v17 s => jt v15 (ixs n1 v17 I25) s fun v18 s => jt v15 (ld s v18) s fun v19 s => jt v15 (ixs n1 v19 I0) s fun v20 s => jt v15 (ld s v20) s fun v21 s => jt v15 (binK .eql v21 U5) s fun v22 s => pck v15 v22 ff fun v23 => jt v23 (fad n1 (r q1)) s fun v24 s => jt v23 (ld s v24) s fun v25 s => jt v23 (ixs n1 v25 I1) s fun v26 s => jt v23 (ld s v26) s fun v27 s => jt v23 (ixs n1 v27 I1) s fun v28 s => jt v23 (ld s v28) s fun v29 s => jt v23 (binK .eql v29 U5) s fun v30 s => pck v23 v30 ff fun v31 => jt v31 (fad n1 (r q1)) s fun v32 s => jt v31 (ld s v32) s fun v33 s => jt v31 (ixs n1 v33 I1) s fun v34 s => jt v31 (ld s v34) s fun v35 s => jt v31 (ixs n1 v35 I2) s fun v36 s => jt v31 (ld s v36) s fun v37 s => jt v31 (binK .eql v37 U7) s fun v38 s => pck v31 v38 ff fun v39 => jt v39 (fad n1 (r q1)) s fun v40 s => jt v39 (ld s v40) s fun v41 s => jt v39 (ixs n1 v41 I21) s fun v42 s => jt v39 (ld s v42) s fun v43 s => jt v39 (ixs n1 v43 I1) s fun v44 s => jt v39 (ld s v44) s fun v45 s => jt v39 (binK .eql v45 (u6 (nat_lit 8452))) s fun v46 s => pck v39 v46 ff fun v47 => K [v47] s)
 .ret))))), [(.tmp q0)], [], [q6, q7, q8, q5, q9, q10, q11, q12, q13, q14, q15, q16, q17, q18, q19, q20, q21, q22, q23, q24, q25, q26, q27, q28, q29, q30, q31, q34, q35, q33, q36, q37, q38, q39, q40, q41, q42, q43, q44, q45, q46, q47, q48, q49, q50, q51, q52, q53, q54, q55, q56, q57, q58, q59, q60, q61, q62, q63, q64, q65, q66, q67, q68, q69, q70, q71, q72, q73, q74, q75, q76, q77, q78, q79, q80, q81, q82, q83, q84, q85, q86, q87, q88, q89, q90, q91, q92, q93]⟩
/- attestor/trace.System -/
noncomputable def cf13 : HF := ⟨
(.seq (.reg [q4, q5] fun c r s K => alc s [zi, zi, zi, zi, zn, zn, zn, zn] fun v0 s => K [v0, I0] s)
 (.seq (.seq (.reg [q6] fun c r s K => c n15 [(r q0), (r q1)] s fun v0 s => K [v0] s)
 (.seq (.reg [q20] fun c r s K => binK .neq (r q6) I0 fun v0 => K [v0] s)
 (.cond (.t q20) (.seq (.reg [q5] fun c r s K => h_op3_build [zi, zi, zi, zi, zn, zn, zn, zn] [] c r s fun v0 s => sto s n8 (r q4) v0 fun s => K [(r q6)] s)
 .ret)
 .skip)))
 (.seq (.reg [q7] fun c r s K => c n22 [] s fun v0 s => h_op3_build [zi, zi, zi, zi, zn, zn, zn, zn] [(n0, n1, (.c I3)), (n1, n1, (.c (r q1))), (n2, n1, (.c (i6 n50))), (n3, n1, (.c I8)), (n5, n1, (.c v0))] c r s fun v1 s => alc s [zi, zi, zi, zi, zn, zn, zn, zn] fun v2 s => sto s n8 v2 v1 fun s => K [v2] s)
 (.seq (.reg [] fun c r s K => xM n1 n24 [zn] I4 I4 c r s fun v0 s => fad n4 (r q7) fun v1 => sto s n1 v1 v0 fun s => K [] s)
 (.seq (.seq (.reg [q29, q30] fun c r s K => xS true I1 (r q1) c r s fun v0 s => K [v0, I0] s)
 (.block n0 (.loop (.seq (.reg [q31] fun c r s K => binK .lss (r q30) (r q29) fun v0 => K [v0] s)
 (.seq (.cond (.t q31) .skip
 (.exit n0))
 (.seq (.block n1 (.seq (.reg [q8] fun c r s K => K [(r q30)] s)
 (.seq (.reg [q9] fun c r s K => c n23 [(r q0), (r q8)] s fun v0 s => alc s [zb, zb, zb, zb] fun v1 s => sto s n4 v1 v0 fun s => K [v1] s)
 (.seq (.drw [q46, q47] fun c r s K => (fun z m => cnv .u64 (r q8) fun v0 => binK .rem (r q8) I16 fun v1 => cnv .u64 v1 fun v2 => dN z m n32 n0 s n4 (r q9) fun v3 m s => dw3 m n64 n32 s (fun s q => c n24 [v3] s q) fun v4 m s => fad n3 (r q9) fun v5 => dL z m (nat_lit 256) n128 s v5 fun v6 m s => cnv .u64 v6 fun v7 => h_op3_build [zu, zu, zu, zu] [(n0, n1, (.c v0)), (n1, n1, (.c v2)), (n2, n1, (.c v4)), (n3, n1, (.c v7))] c r s fun v8 s => K [v8, I0] s) s.next mk0)
 (.block n2 (.loop (.seq (.reg [q48] fun c r s K => binK .lss (r q47) I4 fun v0 => K [v0] s)
 (.seq (.cond (.t q48) .skip
 (.exit n2))
 (.seq (.block n3 (.seq (.reg [q10, q11] fun c r s K => h_op2_idxV n4 n1 false (.c (r q46)) (.c (r q47)) c r s fun v0 s => K [(r q47), v0] s)
 (.drw [] fun c r s K => (fun z m => fad n4 (r q7) fun v0 => dL z m n2 n1 s v0 fun v1 m s => fad n4 (r q7) fun v2 => dL z m n16 n8 s v2 fun v3 m s => ixs n1 v3 (r q10) fun v4 => dL z m n128 n120 s v4 fun v5 m s => dw1 m (nat_lit 512) (fun q => h_op3_buildS n1 n1 [zu] [(n0, n1, (.c (r q11)))] c r s q) fun v6 m s => dw5 z m (nat_lit 1024) (nat_lit 1016) s (.more (.more (.append n1 n8 (.c v5) (.c v6)))) r (fun s q => xA n1 n8 v5 v6 c r s q) fun v7 m s => ixs n1 v1 (r q10) fun v8 => dS z m (nat_lit 4096) (nat_lit 4095) s n1 v8 v7 fun _ m s => K [] s) s.next mk0)))
 (.reg [q47] fun c r s K => binK .add (r q47) I1 fun v0 => K [v0] s))))))))))
 (.reg [q30] fun c r s K => binK .add (r q30) I1 fun v0 => K [v0] s)))))))
 (.seq (.reg [q12] fun c r s K => h_op3_buildS n1 n1 [zi] [(n0, n1, (.c I32))] c r s fun v0 s => c n25 [v0] s fun v1 s => c n26 [I0] s fun v2 s => c n27 [I34] s fun v3 s => c n27 [I11] s fun v4 s => h_op3_buildS n3 n2 [zb, zi, zb, zi, zb, zi] [(n0, n2, (.c v2)), (n2, n2, (.c v3)), (n4, n2, (.c v4))] c r s fun v5 s => xA n2 n16 v1 v5 c r s fun v6 s => K [v6] s)
 (.seq (.reg [] fun c r s K => h_op3_buildS n1 n1 [zn] [(n0, n1, (.c (r q12)))] c r s fun v0 s => h_op3_buildS n4 n1 [zi, zi, zi, zi] [(n0, n1, (.c I35)), (n1, n1, (.c I36)), (n2, n1, (.c I37)), (n3, n1, (.c I38))] c r s fun v1 s => c n25 [v1] s fun v2 s => h_op3_buildS n1 n1 [zn] [(n0, n1, (.c v2))] c r s fun v3 s => h_op3_build [zn, zn] [(n0, n1, (.c v0)), (n1, n1, (.c v3))] c r s fun v4 s => h_op3_buildS n1 n2 [zn, zn] [(n0, n2, (.c v4))] c r s fun v5 s => fad n6 (r q7) fun v6 => sto s n1 v6 v5 fun s => K [] s)
 (.seq (.seq (.reg [q80, q81] fun c r s K => c n21 [] s fun v0 s => K [v0, I0] s)
 (.block n4 (.loop (.seq (.reg [q82] fun c r s K => binK .lss (r q81) I8 fun v0 => K [v0] s)
 (.seq (.cond (.t q82) .skip
 (.exit n4))
 (.seq (.block n5 (.seq (.reg [q13, q14] fun c r s K => h_op2_idxV n8 n1 false (.c (r q80)) (.c (r q81)) c r s fun v0 s => K [(r q81), v0] s)
 (.seq (.reg [q15] fun c r s K => h_op3_buildS n1 n1 [zi] [(n0, n1, (.c (r q14)))] c r s fun v0 s => c n25 [v0] s fun v1 s => c n26 [I1] s fun v2 s => h_op3_buildS n1 n2 [zb, zi] [(n0, n2, (.c v2))] c r s fun v3 s => binK .add (i6 n42) (r q13) fun v4 => c n27 [v4] s fun v5 s => h_op3_build [zn, zn, zb, zi] [(n0, n1, (.c v1)), (n1, n1, (.c v3)), (n2, n2, (.c v5))] c r s fun v6 s => alc s [zn, zn, zb, zi] fun v7 s => sto s n4 v7 v6 fun s => K [v7] s)
 (.seq (.seq (.reg [q94] fun c r s K => K [(r q14)] s)
 (.block n6 (.seq (.reg [q95] fun c r s K => binK .eql (r q94) I0 fun v0 => K [v0] s)
 (.cond (.t q95) (.seq (.reg [] fun c r s K => h_op3_buildS n3 n1 [zi, zi, zi] [(n0, n1, (.c I0)), (n1, n1, (.c I21)), (n2, n1, (.c I22))] c r s fun v0 s => c n25 [v0] s fun v1 s => fad n0 (r q15) fun v2 => sto s n1 v2 v1 fun s => K [] s)
 (.reg [] fun c r s K => c n26 [I0] s fun v0 s => c n26 [I2] s fun v1 s => c n26 [I3] s fun v2 s => h_op3_buildS n3 n2 [zb, zi, zb, zi, zb, zi] [(n0, n2, (.c v0)), (n2, n2, (.c v1)), (n4, n2, (.c v2))] c r s fun v3 s => fad n1 (r q15) fun v4 => sto s n1 v4 v3 fun s => K [] s))
 (.seq (.reg [q105] fun c r s K => binK .eql (r q94) (i6 n40) fun v0 => K [v0] s)
 (.cond (.t q105) (.reg [] fun c r s K => c n26 [I0] s fun v0 s => h_op3_buildS n1 n2 [zb, zi] [(n0, n2, (.c v0))] c r s fun v1 s => fad n1 (r q15) fun v2 => sto s n1 v2 v1 fun s => K [] s)
 .skip))))))
 (.reg [] fun c r s K => fad n7 (r q7) fun v0 => ld s v0 fun v1 => lN s n4 (r q15) fun v2 => h_op3_buildS n1 n4 [zn, zn, zb, zi] [(n0, n4, (.c v2))] c r s fun v3 s => xA n4 n64 v1 v3 c r s fun v4 s => fad n7 (r q7) fun v5 => sto s n1 v5 v4 fun s => K [] s)))))
 (.reg [q81] fun c r s K => binK .add (r q81) I1 fun v0 => K [v0] s)))))))
 (.seq (.reg [q5] fun c r s K => lN s n8 (r q7) fun v0 => sto s n8 (r q4) v0 fun s => K [I0] s)
 .ret))))))))), [(.cellN n8 q4), (.tmp q5)], [q0, q1], [q16, q17, q18, q19, q21, q22, q23, q24, q25, q26, q27, q28, q32, q33, q34, q35, q36, q37, q38, q39, q40, q41, q42, q43, q44, q45, q49, q50, q51, q52, q53, q54, q55, q56, q57, q58, q59, q60, q61, q62, q63, q64, q65, q66, q67, q68, q69, q70, q71, q72, q73, q74, q75, q76, q77, q78, q79, q83, q84, q85, q86, q87, q88, q89, q90, q91, q92, q93, q96, q97, q98, q99, q100, q101, q102, q103, q104, q106, q107, q108, q109, q110, q111, q112, q113, q114, q115, q116, q117]⟩
/- attestor/trace.looked -/
noncomputable def cf21 : HF := ⟨
(.seq (.reg [q0] fun c r s K => alc s [zi, zi, zi, zi, zi, zi, zi, zi] fun v0 s => K [v0] s)
 (.seq (.reg [] fun c r s K => h_op3_build [zi, zi, zi, zi, zi, zi, zi, zi] [(n0, n1, (.c I0)), (n1, n1, (.c I26)), (n2, n1, (.c I27)), (n3, n1, (.c I28)), (n4, n1, (.c I29)), (n5, n1, (.c I32)), (n6, n1, (.c I33)), (n7, n1, (.c (i6 n40)))] c r s fun v0 s => sto s n8 (r q0) v0 fun s => K [] s)
 .ret)), [(.cellN n8 q0)], [], [q1]⟩
/- attestor/trace.main -/
noncomputable def cf27 : HF := ⟨
(.seq (.reg [q2] fun c r s K => alc s [zb, zi] fun v0 s => K [v0] s)
 (.seq (.reg [] fun c r s K => h_op3_build [zb, zi] [(n0, n1, (.c B1)), (n1, n1, (.c (r q0)))] c r s fun v0 s => sto s n2 (r q2) v0 fun s => K [] s)
 .ret)), [(.cellN n2 q2)], [q0], [q3, q4]⟩
/- attestor/trace.fixed -/
noncomputable def cf26 : HF := ⟨
(.seq (.reg [q2] fun c r s K => alc s [zb, zi] fun v0 s => K [v0] s)
 (.seq (.reg [] fun c r s K => h_op3_build [zb, zi] [(n0, n1, (.c B3)), (n1, n1, (.c (r q0)))] c r s fun v0 s => sto s n2 (r q2) v0 fun s => K [] s)
 .ret)), [(.cellN n2 q2)], [q0], [q3, q4]⟩
/- attestor/trace.tuple -/
noncomputable def cf25 : HF := ⟨
(.seq (.reg [q2] fun c r s K => K [(.sc zn)] s)
 (.seq (.reg [q3] fun c r s K => K [(.sc zn)] s)
 (.seq (.seq (.reg [q6, q7, q8] fun c r s K => lnS (r q0) fun v0 => K [(r q0), v0, I0] s)
 (.block n0 (.loop (.seq (.reg [q9] fun c r s K => binK .lss (r q8) (r q7) fun v0 => K [v0] s)
 (.seq (.cond (.t q9) .skip
 (.exit n0))
 (.seq (.block n1 (.seq (.reg [q5] fun c r s K => ixs n1 (r q6) (r q8) fun v0 => ld s v0 fun v1 => K [v1] s)
 (.reg [q3] fun c r s K => c n27 [(r q5)] s fun v0 s => h_op3_buildS n1 n2 [zb, zi] [(n0, n2, (.c v0))] c r s fun v1 s => xA n2 n16 (r q3) v1 c r s fun v2 s => K [v2] s)))
 (.reg [q8] fun c r s K => binK .add (r q8) I1 fun v0 => K [v0] s)))))))
 (.seq (.reg [q2] fun c r s K => K [(r q3)] s)
 .ret)))), [(.tmp q2)], [q0], [q10, q11, q12, q13, q14, q15, q16, q17, q18]⟩
/- attestor/trace.packed -/
noncomputable def cf24 : HF := ⟨
(.seq (.reg [q1, q2] fun c r s K => bxx s (r q0) fun v0 s => K [v0, U0] s)
 (.seq (.reg [q3] fun c r s K => fad n1 (r q1) fun v0 => ld s v0 fun v1 => binK .add B8 v1 fun v2 => xS true U1 v2 c r s fun v3 s => fad n2 (r q1) fun v4 => ld s v4 fun v5 => binK .add B12 v5 fun v6 => xS true U1 v6 c r s fun v7 s => binK .or v3 v7 fun v8 => K [v8] s)
 (.seq (.seq (.reg [q15] fun c r s K => fad n0 (r q1) fun v0 => ld s v0 fun v1 => binK .neq v1 B0 fun v2 => K [v2] s)
 (.cond (.t q15) (.reg [q3] fun c r s K => fad n0 (r q1) fun v0 => ld s v0 fun v1 => binK .sub v1 B1 fun v2 => xS true U1 v2 c r s fun v3 s => binK .or (r q3) v3 fun v4 => K [v4] s)
 .skip))
 (.seq (.reg [q2] fun c r s K => K [(r q3)] s)
 .ret)))), [(.tmp q2)], [q0], [q4, q5, q6, q7, q8, q9, q10, q11, q12, q13, q14, q16, q17, q18, q19, q20, q21, q22]⟩
/- attestor/isa.Fetch -/
noncomputable def cf23 : HF := ⟨
(.seq (.reg [q4] fun c r s K => alc s [zb, zb, zb, zb] fun v0 s => K [v0] s)
 (.seq (.seq (.reg [q12] fun c r s K => binK .lss (r q1) I0 fun v0 => mf v0 (r q1) s fun v1 s => mf v0 (r q0) s fun v2 s => jf v0 (lnS v2) s fun v3 s => jf v0 (binK .geq v1 v3) s fun v4 s => pck v0 tt v4 fun v5 => K [v5] s)
 (.cond (.t q12) (.seq (.reg [] fun c r s K => h_op3_build [zb, zb, zb, zb] [] c r s fun v0 s => sto s n4 (r q4) v0 fun s => K [] s)
 .ret)
 .skip))
 (.seq (.reg [] fun c r s K => ixs n4 (r q0) (r q1) fun v0 => lN s n4 v0 fun v1 => sto s n4 (r q4) v1 fun s => K [] s)
 .ret))), [(.cellN n4 q4)], [q0, q1], [q5, q6, q7, q8, q9, q10, q11, q13, q14, q15, q16, q17]⟩
/- attestor/trace.rules -/
noncomputable def cf22 : HF := ⟨
(.seq (.reg [q0] fun c r s K => K [(.sc zn)] s)
 (.seq (.reg [q1] fun c r s K => alc s [zn] fun v0 s => K [v0] s)
 (.seq (.seq (.reg [q4] fun c r s K => K [I0] s)
 (.block n0 (.loop (.seq (.reg [q5] fun c r s K => binK .lss (r q4) I4 fun v0 => K [v0] s)
 (.seq (.cond (.t q5) .skip
 (.exit n0))
 (.seq (.block n1 (.seq (.reg [q2] fun c r s K => K [(r q4)] s)
 (.reg [] fun c r s K => binK .add I1 (r q2) fun v0 => c n41 [v0] s fun v1 s => c n43 [(r q2)] s fun v2 s => h_op3_buildS n1 n1 [zn] [(n0, n1, (.c v2))] c r s fun v3 s => c n42 [v1, v3] s fun v4 s => h_op3_buildS n1 n1 [zn] [(n0, n1, (.c v4))] c r s fun v5 s => c n40 [(r q1), B3, v5] s fun v6 s => K [] s)))
 (.reg [q4] fun c r s K => binK .add (r q4) I1 fun v0 => K [v0] s)))))))
 (.seq (.reg [] fun c r s K => c n41 [I0] s fun v0 s => c n41 [(i6 n41)] s fun v1 s => h_op3_buildS n2 n1 [zn, zn] [(n0, n1, (.c v0)), (n1, n1, (.c v1))] c r s fun v2 s => c n40 [(r q1), B3, v2] s fun v3 s => K [] s)
 (.seq (.seq (.reg [q21] fun c r s K => K [I0] s)
 (.block n2 (.loop (.seq (.reg [q22] fun c r s K => binK .lss (r q21) I4 fun v0 => K [v0] s)
 (.seq (.cond (.t q22) .skip
 (.exit n2))
 (.seq (.block n3 (.seq (.reg [q3] fun c r s K => K [(r q21)] s)
 (.reg [] fun c r s K => binK .add I1 (r q3) fun v0 => c n41 [v0] s fun v1 s => binK .add I4 (r q3) fun v2 => c n43 [v2] s fun v3 s => h_op3_buildS n1 n1 [zn] [(n0, n1, (.c v3))] c r s fun v4 s => c n42 [v1, v4] s fun v5 s => h_op3_buildS n1 n1 [zn] [(n0, n1, (.c v5))] c r s fun v6 s => c n40 [(r q1), B4, v6] s fun v7 s => K [] s)))
 (.reg [q21] fun c r s K => binK .add (r q21) I1 fun v0 => K [v0] s)))))))
 (.seq (.reg [] fun c r s K => c n44 [I5, I8] s fun v0 s => c n41 [I39] s fun v1 s => c n41 [(i6 n40)] s fun v2 s => h_op3_buildS n3 n1 [zn, zn, zn] [(n0, n1, (.c v0)), (n1, n1, (.c v1)), (n2, n1, (.c v2))] c r s fun v3 s => c n40 [(r q1), B4, v3] s fun v4 s => K [] s)
 (.seq (.reg [] fun c r s K => c n45 [(r q1)] s fun v0 s => K [] s)
 (.seq (.reg [] fun c r s K => c n46 [(r q1)] s fun v0 s => K [] s)
 (.seq (.reg [] fun c r s K => c n47 [(r q1)] s fun v0 s => K [] s)
 (.seq (.reg [] fun c r s K => c n48 [(r q1)] s fun v0 s => K [] s)
 (.seq (.reg [q0] fun c r s K => ld s (r q1) fun v0 => K [v0] s)
 .ret))))))))))), [(.tmp q0)], [], [q6, q7, q8, q9, q10, q11, q12, q13, q14, q15, q16, q17, q18, q19, q20, q23, q24, q25, q26, q27, q28, q29, q30, q31, q32, q33, q34, q35, q36, q37, q38, q39, q40, q41, q42, q43, q44]⟩
/- (*attestor/trace.list).steps -/
noncomputable def cf48 : HF := ⟨
(.seq (.reg [q2] fun c r s K => c n64 [U1] s fun v0 s => K [v0] s)
 (.seq (.seq (.reg [q8] fun c r s K => K [I0] s)
 (.block n0 (.loop (.seq (.reg [q9] fun c r s K => binK .lss (r q8) I4 fun v0 => K [v0] s)
 (.seq (.cond (.t q9) .skip
 (.exit n0))
 (.seq (.block n1 (.seq (.reg [q3] fun c r s K => K [(r q8)] s)
 (.reg [] fun c r s K => binK .add I1 (r q3) fun v0 => c n65 [v0] s fun v1 s => binK .add I1 (r q3) fun v2 => c n41 [v2] s fun v3 s => binK .add I13 (r q3) fun v4 => c n41 [v4] s fun v5 s => c n41 [I25] s fun v6 s => binK .add I1 (r q3) fun v7 => c n41 [v7] s fun v8 s => h_op3_buildS n1 n1 [zn] [(n0, n1, (.c v8))] c r s fun v9 s => c n42 [v6, v9] s fun v10 s => h_op3_buildS n2 n1 [zn, zn] [(n0, n1, (.c v5)), (n1, n1, (.c v10))] c r s fun v11 s => c n60 [v11] s fun v12 s => h_op3_buildS n2 n1 [zn, zn] [(n0, n1, (.c v3)), (n1, n1, (.c v12))] c r s fun v13 s => c n42 [v1, v13] s fun v14 s => h_op3_buildS n1 n1 [zn] [(n0, n1, (.c v14))] c r s fun v15 s => c n40 [(r q0), B2, v15] s fun v16 s => K [] s)))
 (.reg [q8] fun c r s K => binK .add (r q8) I1 fun v0 => K [v0] s)))))))
 (.seq (.reg [q4] fun c r s K => c n41 [I31] s fun v0 s => c n41 [I22] s fun v1 s => c n41 [I0] s fun v2 s => h_op3_buildS n2 n1 [zn, zn] [(n0, n1, (.c v2)), (n1, n1, (.c (r q2)))] c r s fun v3 s => c n42 [v1, v3] s fun v4 s => h_op3_buildS n2 n1 [zn, zn] [(n0, n1, (.c v0)), (n1, n1, (.c v4))] c r s fun v5 s => c n60 [v5] s fun v6 s => K [v6] s)
 (.seq (.reg [q5] fun c r s K => c n41 [I39] s fun v0 s => h_op3_buildS n1 n1 [zn] [(n0, n1, (.c v0))] c r s fun v1 s => c n42 [(r q2), v1] s fun v2 s => K [v2] s)
 (.seq (.reg [q6] fun c r s K => c n65 [I38] s fun v0 s => h_op3_buildS n1 n1 [zn] [(n0, n1, (.c v0))] c r s fun v1 s => c n42 [(r q2), v1] s fun v2 s => K [v2] s)
 (.reg [] fun c r s K => c n65 [I0] s fun v0 s => c n41 [I0] s fun v1 s => c n44 [I5, I8] s fun v2 s => h_op3_buildS n3 n1 [zn, zn, zn] [(n0, n1, (.c v1)), (n1, n1, (.c v2)), (n2, n1, (.c (r q4)))] c r s fun v3 s => c n42 [v0, v3] s fun v4 s => c n41 [I39] s fun v5 s => c n65 [I35] s fun v6 s => c n41 [I35] s fun v7 s => h_op3_buildS n1 n1 [zn] [(n0, n1, (.c v7))] c r s fun v8 s => c n42 [v6, v8] s fun v9 s => h_op3_buildS n2 n1 [zn, zn] [(n0, n1, (.c v5)), (n1, n1, (.c v9))] c r s fun v10 s => c n60 [v10] s fun v11 s => c n41 [(i6 n40)] s fun v12 s => c n41 [I39] s fun v13 s => c n65 [I36] s fun v14 s => c n41 [I36] s fun v15 s => h_op3_buildS n2 n1 [zn, zn] [(n0, n1, (.c v15)), (n1, n1, (.c (r q2)))] c r s fun v16 s => c n42 [v14, v16] s fun v17 s => h_op3_buildS n2 n1 [zn, zn] [(n0, n1, (.c v13)), (n1, n1, (.c v17))] c r s fun v18 s => c n60 [v18] s fun v19 s => c n65 [I35] s fun v20 s => c n41 [I35] s fun v21 s => h_op3_buildS n2 n1 [zn, zn] [(n0, n1, (.c v21)), (n1, n1, (.c (r q2)))] c r s fun v22 s => c n42 [v20, v22] s fun v23 s => h_op3_buildS n2 n1 [zn, zn] [(n0, n1, (.c (r q5))), (n1, n1, (.c v23))] c r s fun v24 s => c n60 [v24] s fun v25 s => h_op3_buildS n2 n1 [zn, zn] [(n0, n1, (.c v19)), (n1, n1, (.c v25))] c r s fun v26 s => c n42 [v12, v26] s fun v27 s => c n41 [I39] s fun v28 s => c n65 [I37] s fun v29 s => c n41 [I37] s fun v30 s => h_op3_buildS n1 n1 [zn] [(n0, n1, (.c v30))] c r s fun v31 s => c n42 [v29, v31] s fun v32 s => h_op3_buildS n3 n1 [zn, zn, zn] [(n0, n1, (.c v28)), (n1, n1, (.c (r q6))), (n2, n1, (.c v32))] c r s fun v33 s => c n60 [v33] s fun v34 s => c n65 [I37] s fun v35 s => h_op3_buildS n3 n1 [zn, zn, zn] [(n0, n1, (.c (r q5))), (n1, n1, (.c (r q6))), (n2, n1, (.c v35))] c r s fun v36 s => c n60 [v36] s fun v37 s => h_op3_buildS n5 n1 [zn, zn, zn, zn, zn] [(n0, n1, (.c v4)), (n1, n1, (.c v11)), (n2, n1, (.c v27)), (n3, n1, (.c v34)), (n4, n1, (.c v37))] c r s fun v38 s => c n40 [(r q0), B2, v38] s fun v39 s => K [] s)))))), [], [q0], [q7, q10, q11, q12, q13, q14, q15, q16, q17, q18, q19, q20, q21, q22, q23, q24, q25, q26, q27, q28, q29, q30, q31, q32, q33, q34, q35, q36, q37, q38, q39, q40, q41, q42, q43, q44, q45, q46, q47, q48, q49, q50, q51, q52, q53, q54, q55, q56, q57, q58, q59, q60, q61, q62, q63, q64, q65, q66, q67, q68, q69, q70, q71, q72, q73, q74, q75, q76, q77, q78, q79, q80, q81, q82, q83, q84, q85, q86, q87, q88, q89, q90, q91, q92, q93, q94, q95, q96, q97]⟩
/- attestor/trace.mul -/
noncomputable def cf60 : HF := ⟨
(.seq (.reg [q2] fun c r s K => K [(.sc zn)] s)
 (.seq (.reg [q3] fun c r s K => c n64 [U1] s fun v0 s => K [v0] s)
 (.seq (.seq (.reg [q12, q13, q14] fun c r s K => lnS (r q0) fun v0 => K [(r q0), v0, I0] s)
 (.block n0 (.loop (.seq (.reg [q15] fun c r s K => binK .lss (r q14) (r q13) fun v0 => K [v0] s)
 (.seq (.cond (.t q15) .skip
 (.exit n0))
 (.seq (.block n1 (.seq (.reg [q5] fun c r s K => ixs n1 (r q12) (r q14) fun v0 => ld s v0 fun v1 => K [v1] s)
 (.seq (.reg [q6] fun c r s K => K [(.sc zn)] s)
 (.seq (.seq (.reg [q18, q19, q20] fun c r s K => lnS (r q3) fun v0 => K [(r q3), v0, I0] s)
 (.block n2 (.loop (.seq (.reg [q21] fun c r s K => binK .lss (r q20) (r q19) fun v0 => K [v0] s)
 (.seq (.cond (.t q21) .skip
 (.exit n2))
 (.seq (.block n3 (.seq (.reg [q8] fun c r s K => ixs n2 (r q18) (r q20) fun v0 => lN s n2 v0 fun v1 => alc s [zu, zn] fun v2 s => sto s n2 v2 v1 fun s => K [v2] s)
 (.seq (.reg [q24, q25, q26] fun c r s K => lnS (r q5) fun v0 => K [(r q5), v0, I0] s)
 (.block n4 (.loop (.seq (.reg [q27] fun c r s K => binK .lss (r q26) (r q25) fun v0 => K [v0] s)
 (.seq (.cond (.t q27) .skip
 (.exit n4))
 (.seq (.block n5 (.seq (.reg [q10] fun c r s K => ixs n2 (r q24) (r q26) fun v0 => lN s n2 v0 fun v1 => alc s [zu, zn] fun v2 s => sto s n2 v2 v1 fun s => K [v2] s)
 (.drw [q6] fun c r s K => (fun z m => fad n0 (r q8) fun v0 => dL z m n4 n2 s v0 fun v1 m s => fad n0 (r q10) fun v2 => dL z m n16 n8 s v2 fun v3 m s => dw3 m n32 n30 s (fun s q => c n83 [I3, v1, v3] s q) fun v4 m s => fad n1 (r q8) fun v5 => dL z m n128 n64 s v5 fun v6 m s => fad n1 (r q10) fun v7 => dL z m (nat_lit 512) (nat_lit 256) s v7 fun v8 m s => dw1 m (nat_lit 1024) (fun q => h_op3_buildS n2 n1 [zn, zn] [(n0, n1, (.c v6)), (n1, n1, (.c v8))] c r s q) fun v9 m s => dw3 m (nat_lit 2048) (nat_lit 2046) s (fun s q => c n84 [v9] s q) fun v10 m s => h_op3_build [zu, zn] [(n0, n1, (.c v4)), (n1, n1, (.c v10))] c r s fun v11 s => dw1 m (nat_lit 8192) (fun q => h_op3_buildS n1 n2 [zu, zn] [(n0, n2, (.c v11))] c r s q) fun v12 m s => dw5 z m (nat_lit 16384) (nat_lit 16383) s (.more (.more (.append n2 n32 (.c (r q6)) (.c v12)))) r (fun s q => xA n2 n32 (r q6) v12 c r s q) fun v13 m s => K [v13] s) s.next mk0)))
 (.reg [q26] fun c r s K => binK .add (r q26) I1 fun v0 => K [v0] s)))))))))
 (.reg [q20] fun c r s K => binK .add (r q20) I1 fun v0 => K [v0] s)))))))
 (.reg [q3] fun c r s K => K [(r q6)] s)))))
 (.reg [q14] fun c r s K => binK .add (r q14) I1 fun v0 => K [v0] s)))))))
 (.seq (.reg [q2] fun c r s K => K [(r q3)] s)
 .ret)))), [(.tmp q2)], [q0], [q11, q16, q17, q22, q23, q28, q29, q30, q31, q32, q33, q34, q35, q36, q37, q38, q39, q40, q41, q42, q43, q44, q45, q46, q47, q48, q49]⟩
/- slices.Concat[[]attestor/api.Var,attestor/api.Var] -/
noncomputable def cf84 : HF := ⟨
(.seq (.reg [q2] fun c r s K => K [(.sc zn)] s)
 (.seq (.reg [q3] fun c r s K => K [I0] s)
 (.seq (.seq (.reg [q9, q10, q11] fun c r s K => lnS (r q0) fun v0 => K [(r q0), v0, I0] s)
 (.block n0 (.loop (.seq (.reg [q12] fun c r s K => binK .lss (r q11) (r q10) fun v0 => K [v0] s)
 (.seq (.cond (.t q12) .skip
 (.exit n0))
 (.seq (.block n1 (.seq (.reg [q5] fun c r s K => ixs n1 (r q9) (r q11) fun v0 => ld s v0 fun v1 => K [v1] s)
 (.seq (.reg [q3] fun c r s K => lnS (r q5) fun v0 => binK .add (r q3) v0 fun v1 => K [v1] s)
 (.seq (.reg [q20] fun c r s K => binK .lss (r q3) I0 fun v0 => K [v0] s)
 (.cond (.t q20) (.reg [] fun c r s K => h_op4_iface n9 (.c (.sc (.lit (.string ⟨#[108, 101, 110, 32, 111, 117, 116, 32, 111, 102, 32, 114, 97, 110, 103, 101]⟩)))) c r s fun v0 s => h_op4_bad n102 c r s fun _ s => K [] s)
 .skip)))))
 (.reg [q11] fun c r s K => binK .add (r q11) I1 fun v0 => K [v0] s)))))))
 (.seq (.reg [q6] fun c r s K => c n92 [(.sc zn), (r q3)] s fun v0 s => K [v0] s)
 (.seq (.seq (.reg [q25, q26, q27] fun c r s K => lnS (r q0) fun v0 => K [(r q0), v0, I0] s)
 (.block n2 (.loop (.seq (.reg [q28] fun c r s K => binK .lss (r q27) (r q26) fun v0 => K [v0] s)
 (.seq (.cond (.t q28) .skip
 (.exit n2))
 (.seq (.block n3 (.seq (.reg [q8] fun c r s K => ixs n1 (r q25) (r q27) fun v0 => ld s v0 fun v1 => K [v1] s)
 (.reg [q6] fun c r s K => xA n2 n16 (r q6) (r q8) c r s fun v0 s => K [v0] s)))
 (.reg [q27] fun c r s K => binK .add (r q27) I1 fun v0 => K [v0] s)))))))
 (.seq (.reg [q2] fun c r s K => K [(r q6)] s)
 .ret)))))), [(.tmp q2)], [q0], [q13, q14, q15, q16, q17, q18, q19, q21, q22, q23, q24, q29, q30, q31, q32, q33, q34, q35]⟩
/- slices.Grow[[]attestor/api.Var,attestor/api.Var] -/
noncomputable def cf92 : HF := ⟨
(.seq (.reg [q4] fun c r s K => K [(.sc zn)] s)
 (.seq (.seq (.reg [q6] fun c r s K => binK .lss (r q1) I0 fun v0 => K [v0] s)
 (.cond (.t q6) (.reg [] fun c r s K => h_op4_iface n9 (.c (.sc (.lit (.string ⟨#[99, 97, 110, 110, 111, 116, 32, 98, 101, 32, 110, 101, 103, 97, 116, 105, 118, 101]⟩)))) c r s fun v0 s => h_op4_bad n102 c r s fun _ s => K [] s)
 .skip))
 (.seq (.seq (.reg [q1] fun c r s K => h_op4_capOf (.c (r q0)) c r s fun v0 s => lnS (r q0) fun v1 => binK .sub v0 v1 fun v2 => binK .sub (r q1) v2 fun v3 => K [v3] s)
 (.seq (.reg [q16] fun c r s K => binK .gtr (r q1) I0 fun v0 => K [v0] s)
 (.cond (.t q16) (.reg [q0] fun c r s K => h_op4_capOf (.c (r q0)) c r s fun v0 s => h_op3_sliceS n2 (.c (r q0)) none (some (.c v0)) none c r s fun v1 s => h_op3_appendZ n2 n16 [zb, zi] (.c v1) (.c (r q1)) c r s fun v2 s => lnS (r q0) fun v3 => h_op3_sliceS n2 (.c v2) none (some (.c v3)) none c r s fun v4 s => K [v4] s)
 .skip)))
 (.seq (.reg [q4] fun c r s K => K [(r q0)] s)
 .ret)))), [(.tmp q4)], [q0, q1], [q5, q7, q8, q9, q10, q11, q12, q13, q14, q15, q17, q18, q19, q20, q21, q22, q23, q24, q25, q26]⟩
/- attestor/field.Mul -/
noncomputable def cf83 : HF := ⟨
(.seq (.reg [q6] fun c r s K => K [U0] s)
 (.seq (.reg [q7] fun c r s K => c n52 [(r q0)] s fun v0 s => K [v0] s)
 (.seq (.seq (.reg [q11] fun c r s K => binK .eql (r q7) U0 fun v0 => K [v0] s)
 (.cond (.t q11) (.seq (.reg [q6] fun c r s K => K [U0] s)
 .ret)
 .skip))
 (.seq (.drw [q6] fun c r s K => (fun z m => binK .rem (r q1) (r q7) fun v0 => binK .rem (r q2) (r q7) fun v1 => binK .mul v0 v1 fun v2 => binK .rem v2 (r q7) fun v3 => K [v3] s) s.next mk0)
 .ret)))), [(.tmp q6)], [q0, q1, q2], [q8, q9, q10, q12, q13, q14, q15, q16, q17, q18, q19, q20]⟩
/- attestor/field.P -/
noncomputable def cf52 : HF := ⟨
(.seq (.reg [q2] fun c r s K => K [U0] s)
 (.seq (.reg [q2] fun c r s K => c n70 [(r q0)] s fun v0 s => fld n0 n1 false v0 fun v1 => K [v1] s)
 .ret)), [(.tmp q2)], [q0], [q3, q4, q5]⟩
/- attestor/field.of -/
noncomputable def cf70 : HF := ⟨
(.seq (.reg [q2] fun c r s K => alc s [zu, zu, zi, zi, zn] fun v0 s => K [v0] s)
 (.seq (.seq (.reg [q5] fun c r s K => c n85 [(r q0)] s fun v0 s => nott v0 fun v1 => K [v1] s)
 (.cond (.t q5) (.seq (.reg [] fun c r s K => h_op3_build [zu, zu, zi, zi, zn] [] c r s fun v0 s => sto s n5 (r q2) v0 fun s => K [] s)
 .ret)
 .skip))
 (.seq (.reg [] fun c r s K => ixA n4 n5 (.sc (.ptr n1 n0)) (r q0) fun v0 => lN s n5 v0 fun v1 => sto s n5 (r q2) v1 fun s => K [] s)
 .ret))), [(.cellN n5 q2)], [q0], [q3, q4, q6, q7, q8, q9]⟩
/- attestor/field.Valid -/
noncomputable def cf85 : HF := ⟨
(.seq (.reg [q2] fun c r s K => K [ff] s)
 (.seq (.reg [q2] fun c r s K => binK .geq (r q0) I0 fun v0 => mt v0 (r q0) s fun v1 s => jt v0 (binK .lss v1 I4) s fun v2 s => pck v0 v2 ff fun v3 => K [v3] s)
 .ret)), [(.tmp q2)], [q0], [q3, q4, q5, q6, q7, q8]⟩
/- attestor/trace.then -/
noncomputable def cf65 : HF := ⟨
(.seq (.reg [q2] fun c r s K => K [(.sc zn)] s)
 (.seq (.reg [q2] fun c r s K => h_op3_build [zb, zi] [(n0, n1, (.c B2)), (n1, n1, (.c (r q0)))] c r s fun v0 s => h_op3_buildS n1 n2 [zb, zi] [(n0, n2, (.c v0))] c r s fun v1 s => h_op3_build [zu, zn] [(n0, n1, (.c U1)), (n1, n1, (.c v1))] c r s fun v2 s => h_op3_buildS n1 n2 [zu, zn] [(n0, n2, (.c v2))] c r s fun v3 s => K [v3] s)
 .ret)), [(.tmp q2)], [q0], [q3, q4, q5, q6, q7]⟩
/- attestor/trace.number -/
noncomputable def cf64 : HF := ⟨
(.seq (.reg [q2] fun c r s K => K [(.sc zn)] s)
 (.seq (.reg [q2] fun c r s K => h_op3_build [zu, zn] [(n0, n1, (.c (r q0)))] c r s fun v0 s => h_op3_buildS n1 n2 [zu, zn] [(n0, n2, (.c v0))] c r s fun v1 s => K [v1] s)
 .ret)), [(.tmp q2)], [q0], [q3, q4, q5]⟩
/- (*attestor/trace.list).memory -/
noncomputable def cf47 : HF := ⟨
(.reg [] fun c r s K => c n41 [I39] s fun v0 s => c n41 [I39] s fun v1 s => h_op3_buildS n2 n1 [zn, zn] [(n0, n1, (.c v0)), (n1, n1, (.c v1))] c r s fun v2 s => c n60 [v2] s fun v3 s => c n41 [I39] s fun v4 s => h_op3_buildS n1 n1 [zn] [(n0, n1, (.c v4))] c r s fun v5 s => c n42 [v3, v5] s fun v6 s => c n41 [(i6 n41)] s fun v7 s => c n41 [I38] s fun v8 s => c n41 [I37] s fun v9 s => h_op3_buildS n2 n1 [zn, zn] [(n0, n1, (.c v8)), (n1, n1, (.c v9))] c r s fun v10 s => c n60 [v10] s fun v11 s => h_op3_buildS n2 n1 [zn, zn] [(n0, n1, (.c v7)), (n1, n1, (.c v11))] c r s fun v12 s => c n57 [v12] s fun v13 s => c n41 [I37] s fun v14 s => h_op3_buildS n1 n1 [zn] [(n0, n1, (.c v14))] c r s fun v15 s => c n42 [v13, v15] s fun v16 s => h_op3_buildS n2 n1 [zn, zn] [(n0, n1, (.c v6)), (n1, n1, (.c v16))] c r s fun v17 s => c n40 [(r q0), B1, v17] s fun v18 s => K [] s), [], [q0], [q2, q3, q4, q5, q6, q7, q8, q9, q10, q11, q12, q13, q14, q15, q16, q17, q18, q19, q20, q21]⟩
/- attestor/trace.add -/
noncomputable def cf57 : HF := ⟨
(.seq (.reg [q2] fun c r s K => K [(.sc zn)] s)
 (.seq (.reg [q2] fun c r s K => c n81 [(r q0)] s fun v0 s => K [v0] s)
 .ret)), [(.tmp q2)], [q0], [q3, q4]⟩
/- slices.Concat[attestor/trace.sum,attestor/api.Mono] -/
noncomputable def cf81 : HF := ⟨
(.seq (.reg [q2] fun c r s K => K [(.sc zn)] s)
 (.seq (.reg [q3] fun c r s K => K [I0] s)
 (.seq (.seq (.reg [q9, q10, q11] fun c r s K => lnS (r q0) fun v0 => K [(r q0), v0, I0] s)
 (.block n0 (.loop (.seq (.reg [q12] fun c r s K => binK .lss (r q11) (r q10) fun v0 => K [v0] s)
 (.seq (.cond (.t q12) .skip
 (.exit n0))
 (.seq (.block n1 (.seq (.reg [q5] fun c r s K => ixs n1 (r q9) (r q11) fun v0 => ld s v0 fun v1 => K [v1] s)
 (.seq (.reg [q3] fun c r s K => lnS (r q5) fun v0 => binK .add (r q3) v0 fun v1 => K [v1] s)
 (.seq (.reg [q20] fun c r s K => binK .lss (r q3) I0 fun v0 => K [v0] s)
 (.cond (.t q20) (.reg [] fun c r s K => h_op4_iface n9 (.c (.sc (.lit (.string ⟨#[108, 101, 110, 32, 111, 117, 116, 32, 111, 102, 32, 114, 97, 110, 103, 101]⟩)))) c r s fun v0 s => h_op4_bad n102 c r s fun _ s => K [] s)
 .skip)))))
 (.reg [q11] fun c r s K => binK .add (r q11) I1 fun v0 => K [v0] s)))))))
 (.seq (.reg [q6] fun c r s K => c n91 [(.sc zn), (r q3)] s fun v0 s => K [v0] s)
 (.seq (.seq (.reg [q25, q26, q27] fun c r s K => lnS (r q0) fun v0 => K [(r q0), v0, I0] s)
 (.block n2 (.loop (.seq (.reg [q28] fun c r s K => binK .lss (r q27) (r q26) fun v0 => K [v0] s)
 (.seq (.cond (.t q28) .skip
 (.exit n2))
 (.seq (.block n3 (.seq (.reg [q8] fun c r s K => ixs n1 (r q25) (r q27) fun v0 => ld s v0 fun v1 => K [v1] s)
 (.reg [q6] fun c r s K => xA n2 n32 (r q6) (r q8) c r s fun v0 s => K [v0] s)))
 (.reg [q27] fun c r s K => binK .add (r q27) I1 fun v0 => K [v0] s)))))))
 (.seq (.reg [q2] fun c r s K => K [(r q6)] s)
 .ret)))))), [(.tmp q2)], [q0], [q13, q14, q15, q16, q17, q18, q19, q21, q22, q23, q24, q29, q30, q31, q32, q33, q34, q35]⟩
/- slices.Grow[attestor/trace.sum,attestor/api.Mono] -/
noncomputable def cf91 : HF := ⟨
(.seq (.reg [q4] fun c r s K => K [(.sc zn)] s)
 (.seq (.seq (.reg [q6] fun c r s K => binK .lss (r q1) I0 fun v0 => K [v0] s)
 (.cond (.t q6) (.reg [] fun c r s K => h_op4_iface n9 (.c (.sc (.lit (.string ⟨#[99, 97, 110, 110, 111, 116, 32, 98, 101, 32, 110, 101, 103, 97, 116, 105, 118, 101]⟩)))) c r s fun v0 s => h_op4_bad n102 c r s fun _ s => K [] s)
 .skip))
 (.seq (.seq (.reg [q1] fun c r s K => h_op4_capOf (.c (r q0)) c r s fun v0 s => lnS (r q0) fun v1 => binK .sub v0 v1 fun v2 => binK .sub (r q1) v2 fun v3 => K [v3] s)
 (.seq (.reg [q16] fun c r s K => binK .gtr (r q1) I0 fun v0 => K [v0] s)
 (.cond (.t q16) (.reg [q0] fun c r s K => h_op4_capOf (.c (r q0)) c r s fun v0 s => h_op3_sliceS n2 (.c (r q0)) none (some (.c v0)) none c r s fun v1 s => h_op3_appendZ n2 n32 [zu, zn] (.c v1) (.c (r q1)) c r s fun v2 s => lnS (r q0) fun v3 => h_op3_sliceS n2 (.c v2) none (some (.c v3)) none c r s fun v4 s => K [v4] s)
 .skip)))
 (.seq (.reg [q4] fun c r s K => K [(r q0)] s)
 .ret)))), [(.tmp q4)], [q0, q1], [q5, q7, q8, q9, q10, q11, q12, q13, q14, q15, q17, q18, q19, q20, q21, q22, q23, q24, q25, q26]⟩
/- (*attestor/trace.list).result -/
noncomputable def cf46 : HF := ⟨
(.seq (.reg [q2] fun c r s K => K [(.sc (.fn n62))] s)
 (.seq (.reg [q3] fun c r s K => c n63 [I28, I29] s fun v0 s => K [v0] s)
 (.seq (.reg [q4] fun c r s K => c n58 [(r q3), (u6 (nat_lit 256))] s fun v0 s => K [v0] s)
 (.seq (.reg [q5] fun c r s K => c n64 [U1] s fun v0 s => K [v0] s)
 (.reg [] fun c r s K => c n41 [I25] s fun v0 s => c n63 [I26, I27] s fun v1 s => h_op3_buildS n1 n1 [zn] [(n0, n1, (.c v1))] c r s fun v2 s => c n42 [v0, v2] s fun v3 s => h_op4_callV (.c (r q2)) [(.c B1)] c r s fun v4 s => c n41 [I25] s fun v5 s => c n41 [I22] s fun v6 s => h_op3_buildS n1 n1 [zn] [(n0, n1, (.c v6))] c r s fun v7 s => c n42 [v5, v7] s fun v8 s => h_op3_buildS n2 n1 [zn, zn] [(n0, n1, (.c v4)), (n1, n1, (.c v8))] c r s fun v9 s => c n60 [v9] s fun v10 s => h_op4_callV (.c (r q2)) [(.c B2)] c r s fun v11 s => c n41 [I25] s fun v12 s => c n41 [I24] s fun v13 s => h_op3_buildS n1 n1 [zn] [(n0, n1, (.c v13))] c r s fun v14 s => c n42 [v12, v14] s fun v15 s => h_op3_buildS n2 n1 [zn, zn] [(n0, n1, (.c v11)), (n1, n1, (.c v15))] c r s fun v16 s => c n60 [v16] s fun v17 s => h_op4_callV (.c (r q2)) [(.c B3)] c r s fun v18 s => c n41 [I23] s fun v19 s => c n41 [I24] s fun v20 s => h_op3_buildS n2 n1 [zn, zn] [(n0, n1, (.c v19)), (n1, n1, (.c v20))] c r s fun v21 s => c n57 [v21] s fun v22 s => c n41 [I25] s fun v23 s => h_op3_buildS n2 n1 [zn, zn] [(n0, n1, (.c v23)), (n1, n1, (.c (r q4)))] c r s fun v24 s => c n42 [v22, v24] s fun v25 s => h_op3_buildS n2 n1 [zn, zn] [(n0, n1, (.c v18)), (n1, n1, (.c v25))] c r s fun v26 s => c n60 [v26] s fun v27 s => h_op4_callV (.c (r q2)) [(.c B4)] c r s fun v28 s => c n41 [I23] s fun v29 s => h_op3_buildS n2 n1 [zn, zn] [(n0, n1, (.c v29)), (n1, n1, (.c (r q4)))] c r s fun v30 s => c n57 [v30] s fun v31 s => c n41 [I24] s fun v32 s => c n41 [I25] s fun v33 s => h_op3_buildS n2 n1 [zn, zn] [(n0, n1, (.c v32)), (n1, n1, (.c v33))] c r s fun v34 s => c n42 [v31, v34] s fun v35 s => h_op3_buildS n2 n1 [zn, zn] [(n0, n1, (.c v28)), (n1, n1, (.c v35))] c r s fun v36 s => c n60 [v36] s fun v37 s => h_op4_callV (.c (r q2)) [(.c B5)] c r s fun v38 s => c n41 [I23] s fun v39 s => c n41 [I24] s fun v40 s => h_op3_buildS n2 n1 [zn, zn] [(n0, n1, (.c v39)), (n1, n1, (.c v40))] c r s fun v41 s => c n60 [v41] s fun v42 s => c n41 [I25] s fun v43 s => h_op3_buildS n2 n1 [zn, zn] [(n0, n1, (.c v43)), (n1, n1, (.c (r q4)))] c r s fun v44 s => c n42 [v42, v44] s fun v45 s => h_op3_buildS n2 n1 [zn, zn] [(n0, n1, (.c v38)), (n1, n1, (.c v45))] c r s fun v46 s => c n60 [v46] s fun v47 s => h_op4_callV (.c (r q2)) [(.c B6)] c r s fun v48 s => c n41 [I25] s fun v49 s => c n41 [I34] s fun v50 s => h_op3_buildS n1 n1 [zn] [(n0, n1, (.c v50))] c r s fun v51 s => c n42 [v49, v51] s fun v52 s => h_op3_buildS n2 n1 [zn, zn] [(n0, n1, (.c v48)), (n1, n1, (.c v52))] c r s fun v53 s => c n60 [v53] s fun v54 s => c n44 [I5, I6] s fun v55 s => h_op3_buildS n1 n1 [zn] [(n0, n1, (.c v55))] c r s fun v56 s => c n42 [(r q5), v56] s fun v57 s => c n41 [I25] s fun v58 s => c n41 [I23] s fun v59 s => h_op3_buildS n1 n1 [zn] [(n0, n1, (.c v59))] c r s fun v60 s => c n42 [v58, v60] s fun v61 s => h_op3_buildS n2 n1 [zn, zn] [(n0, n1, (.c v57)), (n1, n1, (.c v61))] c r s fun v62 s => c n60 [v62] s fun v63 s => h_op4_callV (.c (r q2)) [(.c B3)] c r s fun v64 s => h_op4_callV (.c (r q2)) [(.c B4)] c r s fun v65 s => h_op4_callV (.c (r q2)) [(.c B5)] c r s fun v66 s => h_op3_buildS n3 n1 [zn, zn, zn] [(n0, n1, (.c v64)), (n1, n1, (.c v65)), (n2, n1, (.c v66))] c r s fun v67 s => c n42 [(r q5), v67] s fun v68 s => h_op3_buildS n2 n1 [zn, zn] [(n0, n1, (.c v68)), (n1, n1, (.c (r q3)))] c r s fun v69 s => c n60 [v69] s fun v70 s => h_op4_callV (.c (r q2)) [(.c B7)] c r s fun v71 s => c n41 [I34] s fun v72 s => c n41 [I23] s fun v73 s => h_op3_buildS n1 n1 [zn] [(n0, n1, (.c v73))] c r s fun v74 s => c n42 [v72, v74] s fun v75 s => h_op3_buildS n2 n1 [zn, zn] [(n0, n1, (.c v71)), (n1, n1, (.c v75))] c r s fun v76 s => c n60 [v76] s fun v77 s => c n41 [I24] s fun v78 s => c n63 [I32, I33] s fun v79 s => h_op3_buildS n1 n1 [zn] [(n0, n1, (.c v79))] c r s fun v80 s => c n42 [v78, v80] s fun v81 s => h_op4_callV (.c (r q2)) [(.c B8)] c r s fun v82 s => c n41 [I23] s fun v83 s => c n41 [I30] s fun v84 s => h_op3_buildS n3 n1 [zn, zn, zn] [(n0, n1, (.c v82)), (n1, n1, (.c v83)), (n2, n1, (.c v84))] c r s fun v85 s => c n60 [v85] s fun v86 s => c n41 [I31] s fun v87 s => h_op3_buildS n1 n1 [zn] [(n0, n1, (.c v87))] c r s fun v88 s => c n42 [v86, v88] s fun v89 s => h_op4_callV (.c (r q2)) [(.c B8)] c r s fun v90 s => c n41 [I23] s fun v91 s => h_op3_buildS n2 n1 [zn, zn] [(n0, n1, (.c v90)), (n1, n1, (.c v91))] c r s fun v92 s => c n60 [v92] s fun v93 s => c n41 [I31] s fun v94 s => c n41 [I23] s fun v95 s => h_op3_buildS n2 n1 [zn, zn] [(n0, n1, (.c v94)), (n1, n1, (.c v95))] c r s fun v96 s => c n60 [v96] s fun v97 s => h_op3_buildS n1 n1 [zn] [(n0, n1, (.c v97))] c r s fun v98 s => c n42 [v93, v98] s fun v99 s => c n41 [I30] s fun v100 s => c n41 [I31] s fun v101 s => c n41 [I30] s fun v102 s => h_op3_buildS n2 n1 [zn, zn] [(n0, n1, (.c v101)), (n1, n1, (.c v102))] c r s fun v103 s => c n60 [v103] s fun v104 s => h_op3_buildS n1 n1 [zn] [(n0, n1, (.c v104))] c r s fun v105 s => c n42 [v100, v105] s fun v106 s => h_op3_buildS n14 n1 [zn, zn, zn, zn, zn, zn, zn, zn, zn, zn, zn, zn, zn, zn] [(n0, n1, (.c v3)), (n1, n1, (.c v10)), (n2, n1, (.c v17)), (n3, n1, (.c v27)), (n4, n1, (.c v37)), (n5, n1, (.c v47)), (n6, n1, (.c v54)), (n7, n1, (.c v63)), (n8, n1, (.c v70)), (n9, n1, (.c v77)), (n10, n1, (.c v81)), (n11, n1, (.c v89)), (n12, n1, (.c v99)), (n13, n1, (.c v106))] c r s fun v107 s => c n40 [(r q0), B1, v107] s fun v108 s => K [] s))))), [], [q0], [q6, q7, q8, q9, q10, q11, q12, q13, q14, q15, q16, q17, q18, q19, q20, q21, q22, q23, q24, q25, q26, q27, q28, q29, q30, q31, q32, q33, q34, q35, q36, q37, q38, q39, q40, q41, q42, q43, q44, q45, q46, q47, q48, q49, q50, q51, q52, q53, q54, q55, q56, q57, q58, q59, q60, q61, q62, q63, q64, q65, q66, q67, q68, q69, q70, q71, q72, q73, q74, q75, q76, q77, q78, q79, q80, q81, q82, q83, q84, q85, q86, q87, q88, q89, q90, q91, q92, q93, q94, q95, q96, q97, q98, q99, q100, q101, q102, q103, q104, q105, q106, q107, q108, q109, q110, q111, q112, q113, q114, q115, q116, q117, q118, q119, q120, q121, q122, q123, q124, q125, q126, q127, q128, q129, q130, q131, q132, q133, q134, q135, q136, q137]⟩
/- (attestor/trace.sum).by -/
noncomputable def cf58 : HF := ⟨
(.seq (.reg [q4] fun c r s K => K [(.sc zn)] s)
 (.seq (.reg [q5] fun c r s K => c n82 [(r q0)] s fun v0 s => K [v0] s)
 (.seq (.seq (.reg [q10, q11] fun c r s K => lnS (r q5) fun v0 => K [v0, I0] s)
 (.block n0 (.loop (.seq (.reg [q12] fun c r s K => binK .lss (r q11) (r q10) fun v0 => K [v0] s)
 (.seq (.cond (.t q12) .skip
 (.exit n0))
 (.seq (.block n1 (.seq (.reg [q6] fun c r s K => K [(r q11)] s)
 (.reg [] fun c r s K => ixs n2 (r q5) (r q6) fun v0 => fad n0 v0 fun v1 => ld s v1 fun v2 => c n83 [I3, v2, (r q1)] s fun v3 s => ixs n2 (r q5) (r q6) fun v4 => fad n0 v4 fun v5 => sto s n1 v5 v3 fun s => K [] s)))
 (.reg [q11] fun c r s K => binK .add (r q11) I1 fun v0 => K [v0] s)))))))
 (.seq (.reg [q4] fun c r s K => K [(r q5)] s)
 .ret)))), [(.tmp q4)], [q0, q1], [q7, q8, q9, q13, q14, q15, q16, q17, q18, q19, q20, q21, q22, q23, q24, q25, q26]⟩
/- slices.Clone[attestor/trace.sum,attestor/api.Mono] -/
noncomputable def cf82 : HF := ⟨
(.seq (.reg [q2] fun c r s K => K [(.sc zn)] s)
 (.seq (.seq (.reg [q4] fun c r s K => h_op4_eqv .slice false (.c (r q0)) (.c (.sc zn)) c r s fun v0 s => K [v0] s)
 (.cond (.t q4) (.seq (.reg [q2] fun c r s K => K [(.sc zn)] s)
 .ret)
 .skip))
 (.seq (.reg [q2] fun c r s K => h_op3_buildS n0 n2 [] [] c r s fun v0 s => xA n2 n32 v0 (r q0) c r s fun v1 s => K [v1] s)
 .ret))), [(.tmp q2)], [q0], [q3, q5, q6, q7]⟩
/- attestor/trace.whole -/
noncomputable def cf63 : HF := ⟨
(.seq (.reg [q4] fun c r s K => K [(.sc zn)] s)
 (.seq (.reg [q4] fun c r s K => c n41 [(r q0)] s fun v0 s => c n41 [(r q1)] s fun v1 s => c n58 [v1, U16] s fun v2 s => h_op3_buildS n2 n1 [zn, zn] [(n0, n1, (.c v0)), (n1, n1, (.c v2))] c r s fun v3 s => c n57 [v3] s fun v4 s => K [v4] s)
 .ret)), [(.tmp q4)], [q0, q1], [q5, q6, q7, q8, q9, q10, q11]⟩
/- (*attestor/trace.list).result$1 -/
noncomputable def cf62 : HF := ⟨
(.seq (.reg [q2] fun c r s K => K [(.sc zn)] s)
 (.seq (.reg [q2] fun c r s K => cnv .i64 (r q0) fun v0 => binK .add I5 v0 fun v1 => binK .sub v1 I1 fun v2 => c n41 [v2] s fun v3 s => K [v3] s)
 .ret)), [(.tmp q2)], [q0], [q3, q4, q5, q6, q7]⟩
/- (*attestor/trace.list).instruction -/
noncomputable def cf45 : HF := ⟨
(.seq (.reg [q2] fun c r s K => K [(.sc zn)] s)
 (.seq (.seq (.reg [q4] fun c r s K => K [I0] s)
 (.block n0 (.loop (.seq (.reg [q5] fun c r s K => binK .lss (r q4) I16 fun v0 => K [v0] s)
 (.seq (.cond (.t q5) .skip
 (.exit n0))
 (.seq (.block n1 (.seq (.reg [q3] fun c r s K => K [(r q4)] s)
 (.seq (.reg [] fun c r s K => binK .add I5 (r q3) fun v0 => c n41 [v0] s fun v1 s => binK .add I5 (r q3) fun v2 => c n41 [v2] s fun v3 s => h_op3_buildS n2 n1 [zn, zn] [(n0, n1, (.c v1)), (n1, n1, (.c v3))] c r s fun v4 s => c n60 [v4] s fun v5 s => binK .add I5 (r q3) fun v6 => c n41 [v6] s fun v7 s => h_op3_buildS n1 n1 [zn] [(n0, n1, (.c v7))] c r s fun v8 s => c n42 [v5, v8] s fun v9 s => h_op3_buildS n1 n1 [zn] [(n0, n1, (.c v9))] c r s fun v10 s => c n40 [(r q0), B1, v10] s fun v11 s => K [] s)
 (.drw [q2] fun c r s K => (fun z m => binK .add I5 (r q3) fun v0 => dw3 m n8 n6 s (fun s q => c n41 [v0] s q) fun v1 m s => xS true U1 (r q3) c r s fun v2 s => dw3 m n64 n62 s (fun s q => c n58 [v1, v2] s q) fun v3 m s => dw1 m n128 (fun q => h_op3_buildS n2 n1 [zn, zn] [(n0, n1, (.c (r q2))), (n1, n1, (.c v3))] c r s q) fun v4 m s => dw3 m (nat_lit 256) (nat_lit 255) s (fun s q => c n57 [v4] s q) fun v5 m s => K [v5] s) s.next mk0))))
 (.reg [q4] fun c r s K => binK .add (r q4) I1 fun v0 => K [v0] s)))))))
 (.reg [] fun c r s K => c n41 [I21] s fun v0 s => h_op3_buildS n1 n1 [zn] [(n0, n1, (.c (r q2)))] c r s fun v1 s => c n42 [v0, v1] s fun v2 s => c n41 [I23] s fun v3 s => c n61 [I13] s fun v4 s => h_op3_buildS n1 n1 [zn] [(n0, n1, (.c v4))] c r s fun v5 s => c n42 [v3, v5] s fun v6 s => c n41 [I24] s fun v7 s => c n61 [I17] s fun v8 s => h_op3_buildS n1 n1 [zn] [(n0, n1, (.c v8))] c r s fun v9 s => c n42 [v7, v9] s fun v10 s => h_op3_buildS n3 n1 [zn, zn, zn] [(n0, n1, (.c v2)), (n1, n1, (.c v6)), (n2, n1, (.c v10))] c r s fun v11 s => c n40 [(r q0), B1, v11] s fun v12 s => K [] s))), [], [q0], [q6, q7, q8, q9, q10, q11, q12, q13, q14, q15, q16, q17, q18, q19, q20, q21, q22, q23, q24, q25, q26, q27, q28, q29, q30, q31, q32, q33, q34, q35, q36, q37, q38, q39, q40, q41, q42, q43, q44, q45, q46, q47]⟩
/- attestor/trace.selected -/
noncomputable def cf61 : HF := ⟨
(.seq (.reg [q2] fun c r s K => K [(.sc zn)] s)
 (.seq (.reg [q3] fun c r s K => K [(.sc zn)] s)
 (.seq (.seq (.reg [q5] fun c r s K => K [I0] s)
 (.block n0 (.loop (.seq (.reg [q6] fun c r s K => binK .lss (r q5) I4 fun v0 => K [v0] s)
 (.seq (.cond (.t q6) .skip
 (.exit n0))
 (.seq (.block n1 (.seq (.reg [q4] fun c r s K => K [(r q5)] s)
 (.reg [q3] fun c r s K => binK .add (r q0) (r q4) fun v0 => c n41 [v0] s fun v1 s => binK .add I1 (r q4) fun v2 => c n41 [v2] s fun v3 s => h_op3_buildS n2 n1 [zn, zn] [(n0, n1, (.c v1)), (n1, n1, (.c v3))] c r s fun v4 s => c n60 [v4] s fun v5 s => h_op3_buildS n2 n1 [zn, zn] [(n0, n1, (.c (r q3))), (n1, n1, (.c v5))] c r s fun v6 s => c n57 [v6] s fun v7 s => K [v7] s)))
 (.reg [q5] fun c r s K => binK .add (r q5) I1 fun v0 => K [v0] s)))))))
 (.seq (.reg [q2] fun c r s K => K [(r q3)] s)
 .ret)))), [(.tmp q2)], [q0], [q7, q8, q9, q10, q11, q12, q13, q14, q15, q16, q17, q18, q19, q20, q21]⟩
/- attestor/trace.span -/
noncomputable def cf44 : HF := ⟨
(.seq (.reg [q4] fun c r s K => K [(.sc zn)] s)
 (.seq (.reg [q5] fun c r s K => K [(.sc zn)] s)
 (.seq (.seq (.reg [q7, q8] fun c r s K => K [(r q1), I0] s)
 (.block n0 (.loop (.seq (.reg [q9] fun c r s K => binK .lss (r q8) (r q7) fun v0 => K [v0] s)
 (.seq (.cond (.t q9) .skip
 (.exit n0))
 (.seq (.block n1 (.seq (.reg [q6] fun c r s K => K [(r q8)] s)
 (.reg [q5] fun c r s K => binK .add (r q0) (r q6) fun v0 => c n41 [v0] s fun v1 s => h_op3_buildS n2 n1 [zn, zn] [(n0, n1, (.c (r q5))), (n1, n1, (.c v1))] c r s fun v2 s => c n57 [v2] s fun v3 s => K [v3] s)))
 (.reg [q8] fun c r s K => binK .add (r q8) I1 fun v0 => K [v0] s)))))))
 (.seq (.reg [q4] fun c r s K => K [(r q5)] s)
 .ret)))), [(.tmp q4)], [q0, q1], [q10, q11, q12, q13, q14, q15, q16, q17, q18, q19]⟩
/- (*attestor/trace.list).say -/
noncomputable def cf40 : HF := ⟨
(.seq (.reg [q8, q9, q10] fun c r s K => lnS (r q2) fun v0 => K [(r q2), v0, I0] s)
 (.block n0 (.loop (.seq (.reg [q11] fun c r s K => binK .lss (r q10) (r q9) fun v0 => K [v0] s)
 (.seq (.cond (.t q11) .skip
 (.exit n0))
 (.seq (.block n1 (.seq (.reg [q7] fun c r s K => ixs n1 (r q8) (r q10) fun v0 => ld s v0 fun v1 => K [v1] s)
 (.reg [] fun c r s K => xC (r q0) c r s fun v0 s => ld s v0 fun v1 => h_op3_build [zb, zn] [(n0, n1, (.c (r q1))), (n1, n1, (.c (r q7)))] c r s fun v2 s => h_op3_buildS n1 n2 [zb, zn] [(n0, n2, (.c v2))] c r s fun v3 s => xA n2 n32 v1 v3 c r s fun v4 s => xC (r q0) c r s fun v5 s => sto s n1 v5 v4 fun s => K [] s)))
 (.reg [q10] fun c r s K => binK .add (r q10) I1 fun v0 => K [v0] s))))))), [], [q0, q1, q2], [q12, q13, q14, q15, q16, q17, q18, q19, q20, q21, q22, q23, q24]⟩
/- (attestor/trace.sum).less -/
noncomputable def cf42 : HF := ⟨
(.seq (.reg [q4] fun c r s K => K [(.sc zn)] s)
 (.seq (.reg [q4] fun c r s K => c n57 [(r q1)] s fun v0 s => c n59 [I3, U1] s fun v1 s => c n58 [v0, v1] s fun v2 s => h_op3_buildS n2 n1 [zn, zn] [(n0, n1, (.c (r q0))), (n1, n1, (.c v2))] c r s fun v3 s => c n57 [v3] s fun v4 s => K [v4] s)
 .ret)), [(.tmp q4)], [q0, q1], [q5, q6, q7, q8, q9, q10, q11]⟩
/- attestor/field.Neg -/
noncomputable def cf59 : HF := ⟨
(.seq (.reg [q4] fun c r s K => K [U0] s)
 (.seq (.reg [q5] fun c r s K => c n52 [(r q0)] s fun v0 s => K [v0] s)
 (.seq (.seq (.reg [q15] fun c r s K => binK .eql (r q5) U0 fun v0 => mf v0 (r q1) s fun v1 s => mf v0 (r q5) s fun v2 s => jf v0 (binK .rem v1 v2) s fun v3 s => jf v0 (binK .eql v3 U0) s fun v4 s => pck v0 tt v4 fun v5 => K [v5] s)
 (.cond (.t q15) (.seq (.reg [q4] fun c r s K => K [U0] s)
 .ret)
 .skip))
 (.seq (.reg [q4] fun c r s K => binK .rem (r q1) (r q5) fun v0 => binK .sub (r q5) v0 fun v1 => K [v1] s)
 .ret)))), [(.tmp q4)], [q0, q1], [q6, q7, q8, q9, q10, q11, q12, q13, q14, q16, q17, q18, q19, q20]⟩
/- attestor/trace.input -/
noncomputable def cf43 : HF := ⟨
(.seq (.reg [q2] fun c r s K => K [(.sc zn)] s)
 (.seq (.reg [q2] fun c r s K => h_op3_build [zb, zi] [(n0, n1, (.c B4)), (n1, n1, (.c (r q0)))] c r s fun v0 s => h_op3_buildS n1 n2 [zb, zi] [(n0, n2, (.c v0))] c r s fun v1 s => h_op3_build [zu, zn] [(n0, n1, (.c U1)), (n1, n1, (.c v1))] c r s fun v2 s => h_op3_buildS n1 n2 [zu, zn] [(n0, n2, (.c v2))] c r s fun v3 s => K [v3] s)
 .ret)), [(.tmp q2)], [q0], [q3, q4, q5, q6, q7]⟩
/- attestor/trace.now -/
noncomputable def cf41 : HF := ⟨
(.seq (.reg [q2] fun c r s K => K [(.sc zn)] s)
 (.seq (.reg [q2] fun c r s K => c n27 [(r q0)] s fun v0 s => h_op3_buildS n1 n2 [zb, zi] [(n0, n2, (.c v0))] c r s fun v1 s => h_op3_build [zu, zn] [(n0, n1, (.c U1)), (n1, n1, (.c v1))] c r s fun v2 s => h_op3_buildS n1 n2 [zu, zn] [(n0, n2, (.c v2))] c r s fun v3 s => K [v3] s)
 .ret)), [(.tmp q2)], [q0], [q3, q4, q5, q6, q7]⟩
/- attestor/trace.bounds -/
noncomputable def cf15 : HF := ⟨
(.seq (.reg [q4] fun c r s K => K [I0] s)
 (.seq (.block n0 (.seq (.reg [q5] fun c r s K => c n28 [(r q0)] s fun v0 s => binK .neq v0 I0 fun v1 => mf v1 (r q1) s fun v2 s => jf v1 (binK .lss v2 I4) s fun v3 s => pck v1 tt v3 fun v4 => mf v4 (r q1) s fun v5 s => jf v4 (binK .gtr v5 I13) s fun v6 s => pck v4 tt v6 fun v7 => K [v7] s)
 (.cond (.t q5) (.seq (.reg [q4] fun c r s K => K [I1] s)
 .ret)
 (.seq (.reg [q17] fun c r s K => xS true I1 (r q1) c r s fun v0 s => lnS (r q0) fun v1 => binK .leq v0 v1 fun v2 => K [v2] s)
 (.cond (.t q17) (.seq (.reg [q4] fun c r s K => K [I3] s)
 .ret)
 .skip)))))
 (.seq (.reg [q4] fun c r s K => K [I0] s)
 .ret))), [(.tmp q4)], [q0, q1], [q6, q7, q8, q9, q10, q11, q12, q13, q14, q15, q16, q18, q19, q20, q21, q22]⟩
/- attestor/isa.Valid -/
noncomputable def cf28 : HF := ⟨
(.seq (.reg [q2] fun c r s K => K [I0] s)
 (.seq (.seq (.reg [q7] fun c r s K => lnS (r q0) fun v0 => binK .gtr v0 I32 fun v1 => K [v1] s)
 (.cond (.t q7) (.seq (.reg [q2] fun c r s K => K [I3] s)
 .ret)
 .skip))
 (.seq (.seq (.reg [q8, q9, q10] fun c r s K => lnS (r q0) fun v0 => K [(r q0), v0, I0] s)
 (.block n0 (.loop (.seq (.reg [q11] fun c r s K => binK .lss (r q10) (r q9) fun v0 => K [v0] s)
 (.seq (.cond (.t q11) .skip
 (.exit n0))
 (.seq (.block n1 (.seq (.reg [q4] fun c r s K => ixs n4 (r q8) (r q10) fun v0 => lN s n4 v0 fun v1 => alc s [zb, zb, zb, zb] fun v2 s => sto s n4 v2 v1 fun s => K [v2] s)
 (.block n2 (.seq (.reg [q14] fun c r s K => lN s n4 (r q4) fun v0 => c n49 [v0] s fun v1 s => nott v1 fun v2 => K [v2] s)
 (.cond (.t q14) (.seq (.reg [q2] fun c r s K => K [I1] s)
 .ret)
 (.seq (.reg [q18] fun c r s K => lN s n4 (r q4) fun v0 => lnS (r q0) fun v1 => c n50 [v0, v1] s fun v2 s => nott v2 fun v3 => K [v3] s)
 (.cond (.t q18) (.seq (.reg [q2] fun c r s K => K [I2] s)
 .ret)
 .skip)))))))
 (.reg [q10] fun c r s K => binK .add (r q10) I1 fun v0 => K [v0] s)))))))
 (.seq (.reg [q2] fun c r s K => K [I0] s)
 .ret)))), [(.tmp q2)], [q0], [q5, q6, q12, q13, q15, q16, q17, q19, q20, q21, q22, q23, q24]⟩
/- attestor/isa.lands -/
noncomputable def cf50 : HF := ⟨
(.seq (.reg [q2, q4] fun c r s K => bxx s (r q0) fun v0 s => K [v0, ff] s)
 (.seq (.reg [q4] fun c r s K => fad n0 (r q2) fun v0 => ld s v0 fun v1 => binK .neq v1 B8 fun v2 => jf v2 (fad n3 (r q2)) s fun v3 s => jf v2 (ld s v3) s fun v4 s => jf v2 (cnv .i64 v4) s fun v5 s => mf v2 (r q1) s fun v6 s => jf v2 (binK .leq v5 v6) s fun v7 s => pck v2 tt v7 fun v8 => K [v8] s)
 .ret)), [(.tmp q4)], [q0, q1], [q5, q6, q7, q8, q9, q10, q11, q12, q13, q14]⟩
/- attestor/isa.fits -/
noncomputable def cf49 : HF := ⟨
(.seq (.reg [q1, q2] fun c r s K => bxx s (r q0) fun v0 s => K [v0, ff] s)
 (.seq (.seq (.reg [q17] fun c r s K => fad n0 (r q1) fun v0 => ld s v0 fun v1 => cnv .i64 v1 fun v2 => binK .geq v2 I9 fun v3 => jf v3 (fad n1 (r q1)) s fun v4 s => jf v3 (ld s v4) s fun v5 s => jf v3 (binK .gtr v5 B3) s fun v6 s => pck v3 tt v6 fun v7 => jf v7 (fad n2 (r q1)) s fun v8 s => jf v7 (ld s v8) s fun v9 s => jf v7 (binK .gtr v9 B3) s fun v10 s => pck v7 tt v10 fun v11 => K [v11] s)
 (.cond (.t q17) (.seq (.reg [q2] fun c r s K => K [ff] s)
 .ret)
 .skip))
 (.seq (.reg [q3] fun c r s K => fad n0 (r q1) fun v0 => ld s v0 fun v1 => ixA n9 n1 (.sc (.ptr n0 n0)) v1 fun v2 => ld s v2 fun v3 => K [v3] s)
 (.seq (.reg [q2] fun c r s K => binK .and (r q3) B1 fun v0 => binK .neq v0 B0 fun v1 => jf v1 (fad n1 (r q1)) s fun v2 s => jf v1 (ld s v2) s fun v3 s => jf v1 (binK .eql v3 B0) s fun v4 s => pck v1 tt v4 fun v5 => mt v5 (r q3) s fun v6 s => jt v5 (binK .and v6 B2) s fun v7 s => jt v5 (binK .neq v7 B0) s fun v8 s => mt v5 v8 s fun v9 s => jf v9 (fad n2 (r q1)) s fun v10 s => jf v9 (ld s v10) s fun v11 s => jf v9 (binK .eql v11 B0) s fun v12 s => jt v5 (pck v9 tt v12) s fun v13 s => pck v5 v13 ff fun v14 => mt v14 (r q3) s fun v15 s => jt v14 (binK .and v15 B4) s fun v16 s => jt v14 (binK .neq v16 B0) s fun v17 s => mt v14 v17 s fun v18 s => jf v18 (fad n3 (r q1)) s fun v19 s => jf v18 (ld s v19) s fun v20 s => jf v18 (binK .eql v20 B0) s fun v21 s => jt v14 (pck v18 tt v21) s fun v22 s => pck v14 v22 ff fun v23 => K [v23] s)
 .ret)))), [(.tmp q2)], [q0], [q4, q5, q6, q7, q8, q9, q10, q11, q12, q13, q14, q15, q16, q18, q19, q20, q21, q22, q23, q24, q25, q26, q27, q28, q29, q30, q31, q32, q33, q34, q35, q36, q37, q38, q39, q40, q41, q42, q43, q44, q45, q46, q47, q48, q49]⟩
/- attestor/trace.Columns -/
noncomputable def cf11 : HF := ⟨
(.seq (.reg [q4, q6, q7] fun c r s K => bxx s (r q1) fun v0 s => alc s [zn, zn] fun v1 s => K [v0, v1, I0] s)
 (.seq (.seq (.reg [q8] fun c r s K => c n15 [(r q0), (r q2)] s fun v0 s => K [v0] s)
 (.seq (.reg [q29] fun c r s K => binK .neq (r q8) I0 fun v0 => K [v0] s)
 (.cond (.t q29) (.seq (.reg [q7] fun c r s K => h_op3_build [zn, zn] [] c r s fun v0 s => sto s n2 (r q6) v0 fun s => K [(r q8)] s)
 .ret)
 .skip)))
 (.seq (.drw [q9] fun c r s K => (fun z m => dN z m n2 n0 s n4 (r q4) fun v0 m s => dw3 m n4 n2 s (fun s q => c n17 [v0] s q) fun v1 m s => xS true I1 (r q2) c r s fun v2 s => dw3 m n32 n31 s (fun s q => c n16 [(r q0), v1, v2] s q) fun v3 m s => xE n0 v3 c r s fun v4 s => xE n1 v3 c r s fun v5 s => K [v4] s) s.next mk0)
 (.seq (.reg [q11] fun c r s K => lnS (r q9) fun v0 => binK .sub v0 I1 fun v1 => ixs n21 (r q9) v1 fun v2 => lN s n21 v2 fun v3 => alc s [zi, zb, zb, zb, zb, zb, zb, zb, zb, zb, zb, zb, zb, zb, zb, zb, zb, zb, zb, zb, zb] fun v4 s => sto s n21 v4 v3 fun s => K [v4] s)
 (.seq (.seq (.reg [q50] fun c r s K => lN s n21 (r q11) fun v0 => c n18 [(r q0), v0] s fun v1 s => nott v1 fun v2 => K [v2] s)
 (.cond (.t q50) (.seq (.reg [q7] fun c r s K => h_op3_build [zn, zn] [] c r s fun v0 s => sto s n2 (r q6) v0 fun s => K [I8] s)
 .ret)
 .skip))
 (.seq (.reg [q12] fun c r s K => lnS (r q9) fun v0 => xM n50 (nat_lit 400) [zu, zu, zu, zu, zu, zu, zu, zu, zu, zu, zu, zu, zu, zu, zu, zu, zu, zu, zu, zu, zu, zu, zu, zu, zu, zu, zu, zu, zu, zu, zu, zu, zu, zu, zu, zu, zu, zu, zu, zu, zu, zu, zu, zu, zu, zu, zu, zu, zu, zu] v0 v0 c r s fun v1 s => K [v1] s)
 (.seq (.seq (.reg [q55, q56, q57] fun c r s K => lnS (r q9) fun v0 => K [(r q9), v0, I0] s)
 (.block n0 (.loop (.seq (.reg [q58] fun c r s K => binK .lss (r q57) (r q56) fun v0 => K [v0] s)
 (.seq (.cond (.t q58) .skip
 (.exit n0))
 (.seq (.block n1 (.seq (.reg [q14, q13] fun c r s K => ixs n21 (r q55) (r q57) fun v0 => lN s n21 v0 fun v1 => alc s [zi, zb, zb, zb, zb, zb, zb, zb, zb, zb, zb, zb, zb, zb, zb, zb, zb, zb, zb, zb, zb] fun v2 s => sto s n21 v2 v1 fun s => K [v2, (r q57)] s)
 (.reg [] fun c r s K => lN s n21 (r q14) fun v0 => c n19 [(r q0), v0] s fun v1 s => ixs n50 (r q12) (r q13) fun v2 => sto s n50 v2 v1 fun s => K [] s)))
 (.reg [q57] fun c r s K => binK .add (r q57) I1 fun v0 => K [v0] s)))))))
 (.seq (.reg [] fun c r s K => c n20 [(r q12)] s fun v0 s => K [] s)
 (.seq (.seq (.reg [q72, q73] fun c r s K => lnS (r q12) fun v0 => K [v0, I0] s)
 (.block n2 (.loop (.seq (.reg [q74] fun c r s K => binK .lss (r q73) (r q72) fun v0 => K [v0] s)
 (.seq (.cond (.t q74) .skip
 (.exit n2))
 (.seq (.block n3 (.seq (.reg [q15] fun c r s K => K [(r q73)] s)
 (.seq (.reg [q76, q77] fun c r s K => c n21 [] s fun v0 s => K [v0, I0] s)
 (.block n4 (.loop (.seq (.reg [q78] fun c r s K => binK .lss (r q77) I8 fun v0 => K [v0] s)
 (.seq (.cond (.t q78) .skip
 (.exit n4))
 (.seq (.block n5 (.seq (.reg [q16, q17] fun c r s K => h_op2_idxV n8 n1 false (.c (r q76)) (.c (r q77)) c r s fun v0 s => K [(r q77), v0] s)
 (.drw [] fun c r s K => (fun z m => ixs n50 (r q12) (r q15) fun v0 => ixA n50 n1 v0 (r q17) fun v1 => dL z m n64 n62 s v1 fun v2 m s => binK .add (i6 n42) (r q16) fun v3 => ixs n50 (r q12) v2 fun v4 => ixA n50 n1 v4 v3 fun v5 => dL z m (nat_lit 2048) (nat_lit 2047) s v5 fun v6 m s => binK .add v6 U1 fun v7 => ixs n50 (r q12) v2 fun v8 => ixA n50 n1 v8 v3 fun v9 => dS z m (nat_lit 32768) (nat_lit 32767) s n1 v9 v7 fun _ m s => K [] s) s.next mk0)))
 (.reg [q77] fun c r s K => binK .add (r q77) I1 fun v0 => K [v0] s)))))))))
 (.reg [q73] fun c r s K => binK .add (r q73) I1 fun v0 => K [v0] s)))))))
 (.seq (.reg [q18] fun c r s K => xM n1 n24 [zn] (i6 n50) (i6 n50) c r s fun v0 s => h_op3_build [zn, zn] [(n1, n1, (.c v0))] c r s fun v1 s => alc s [zn, zn] fun v2 s => sto s n2 v2 v1 fun s => K [v2] s)
 (.seq (.seq (.reg [q102, q103] fun c r s K => fad n1 (r q18) fun v0 => ld s v0 fun v1 => lnS v1 fun v2 => K [v2, I0] s)
 (.block n6 (.loop (.seq (.reg [q104] fun c r s K => binK .lss (r q103) (r q102) fun v0 => K [v0] s)
 (.seq (.cond (.t q104) .skip
 (.exit n6))
 (.seq (.block n7 (.seq (.reg [q19] fun c r s K => K [(r q103)] s)
 (.seq (.reg [q107, q108] fun c r s K => lnS (r q12) fun v0 => K [v0, I0] s)
 (.block n8 (.loop (.seq (.reg [q109] fun c r s K => binK .lss (r q108) (r q107) fun v0 => K [v0] s)
 (.seq (.cond (.t q109) .skip
 (.exit n8))
 (.seq (.block n9 (.seq (.reg [q20] fun c r s K => K [(r q108)] s)
 (.drw [] fun c r s K => (fun z m => fad n1 (r q18) fun v0 => dL z m n2 n1 s v0 fun v1 m s => fad n1 (r q18) fun v2 => dL z m n16 n8 s v2 fun v3 m s => ixs n1 v3 (r q19) fun v4 => dL z m n128 n120 s v4 fun v5 m s => ixs n50 (r q12) (r q20) fun v6 => ixA n50 n1 v6 (r q19) fun v7 => dL z m (nat_lit 8192) (nat_lit 7936) s v7 fun v8 m s => dw1 m (nat_lit 16384) (fun q => h_op3_buildS n1 n1 [zu] [(n0, n1, (.c v8))] c r s q) fun v9 m s => dw5 z m (nat_lit 32768) (nat_lit 32760) s (.more (.more (.append n1 n8 (.c v5) (.c v9)))) r (fun s q => xA n1 n8 v5 v9 c r s q) fun v10 m s => ixs n1 v1 (r q19) fun v11 => dS z m (nat_lit 131072) (nat_lit 131071) s n1 v11 v10 fun _ m s => K [] s) s.next mk0)))
 (.reg [q108] fun c r s K => binK .add (r q108) I1 fun v0 => K [v0] s)))))))))
 (.reg [q103] fun c r s K => binK .add (r q103) I1 fun v0 => K [v0] s)))))))
 (.seq (.seq (.drw [q134, q135] fun c r s K => (fun z m => ixs n21 (r q9) I0 fun v0 => dN z m n4 n3 s n21 v0 fun v1 m s => dN z m n8 n0 s n21 (r q11) fun v2 m s => h_op3_build [zi, zb, zb, zb, zb, zb, zb, zb, zb, zb, zb, zb, zb, zb, zb, zb, zb, zb, zb, zb, zb, zi, zb, zb, zb, zb, zb, zb, zb, zb, zb, zb, zb, zb, zb, zb, zb, zb, zb, zb, zb, zb] [(n0, n21, (.c v1)), (n21, n21, (.c v2))] c r s fun v3 s => K [v3, I0] s) s.next mk0)
 (.block n10 (.loop (.seq (.reg [q136] fun c r s K => binK .lss (r q135) I2 fun v0 => K [v0] s)
 (.seq (.cond (.t q136) .skip
 (.exit n10))
 (.seq (.block n11 (.seq (.reg [q22] fun c r s K => h_op2_idxV n2 n21 true (.c (r q134)) (.c (r q135)) c r s fun v0 s => alc s [zi, zb, zb, zb, zb, zb, zb, zb, zb, zb, zb, zb, zb, zb, zb, zb, zb, zb, zb, zb, zb] fun v1 s => sto s n21 v1 v0 fun s => K [v1] s)
 (.seq (.reg [q139, q140] fun c r s K => fad n1 (r q22) fun v0 => lN s n4 v0 fun v1 => K [v1, I0] s)
 (.block n12 (.loop (.seq (.reg [q141] fun c r s K => binK .lss (r q140) I4 fun v0 => K [v0] s)
 (.seq (.cond (.t q141) .skip
 (.exit n12))
 (.seq (.block n13 (.seq (.reg [q24] fun c r s K => h_op2_idxV n4 n1 false (.c (r q139)) (.c (r q140)) c r s fun v0 s => K [v0] s)
 (.reg [] fun c r s K => fad n0 (r q18) fun v0 => ld s v0 fun v1 => cnv .u64 (r q24) fun v2 => h_op3_buildS n1 n1 [zu] [(n0, n1, (.c v2))] c r s fun v3 s => xA n1 n8 v1 v3 c r s fun v4 s => fad n0 (r q18) fun v5 => sto s n1 v5 v4 fun s => K [] s)))
 (.reg [q140] fun c r s K => binK .add (r q140) I1 fun v0 => K [v0] s)))))))))
 (.reg [q135] fun c r s K => binK .add (r q135) I1 fun v0 => K [v0] s)))))))
 (.seq (.reg [q7] fun c r s K => lN s n2 (r q18) fun v0 => sto s n2 (r q6) v0 fun s => K [I0] s)
 .ret))))))))))))), [(.cellN n2 q6), (.tmp q7)], [q0, q1, q2], [q25, q26, q27, q28, q30, q31, q33, q34, q35, q36, q37, q38, q32, q39, q40, q10, q41, q42, q43, q44, q45, q46, q47, q48, q49, q51, q52, q53, q54, q59, q60, q61, q62, q63, q64, q65, q66, q67, q68, q69, q70, q71, q75, q79, q80, q81, q82, q83, q84, q85, q86, q87, q88, q89, q90, q91, q92, q93, q94, q95, q96, q97, q98, q99, q100, q101, q105, q106, q110, q111, q112, q113, q114, q115, q116, q117, q118, q119, q120, q121, q122, q123, q124, q125, q126, q127, q128, q129, q130, q131, q132, q133, q137, q138, q142, q143, q144, q145, q146, q147, q148, q149, q150, q151, q152]⟩
/- attestor/trace.sorted -/
noncomputable def cf20 : HF := ⟨
(.seq (.reg [q1] fun c r s K => bxx s (r q0) fun v0 s => K [v0] s)
 (.seq (.reg [q2] fun c r s K => ld s (r q1) fun v0 => lnS v0 fun v1 => xM n1 n8 [zi] v1 v1 c r s fun v2 s => K [v2] s)
 (.seq (.seq (.reg [q12, q13] fun c r s K => lnS (r q2) fun v0 => K [v0, I0] s)
 (.block n0 (.loop (.seq (.reg [q14] fun c r s K => binK .lss (r q13) (r q12) fun v0 => K [v0] s)
 (.seq (.cond (.t q14) .skip
 (.exit n0))
 (.seq (.block n1 (.seq (.reg [q3] fun c r s K => K [(r q13)] s)
 (.reg [] fun c r s K => ixs n1 (r q2) (r q3) fun v0 => sto s n1 v0 (r q3) fun s => K [] s)))
 (.reg [q13] fun c r s K => binK .add (r q13) I1 fun v0 => K [v0] s)))))))
 (.seq (.reg [] fun c r s K => h_op4_makeFunc n36 [(.c (r q1))] c r s fun v0 s => c n35 [(r q2), v0] s fun v1 s => K [] s)
 (.seq (.reg [q24, q25, q26] fun c r s K => lnS (r q2) fun v0 => K [(r q2), v0, I0] s)
 (.block n2 (.loop (.seq (.reg [q27] fun c r s K => binK .lss (r q26) (r q25) fun v0 => K [v0] s)
 (.seq (.cond (.t q27) .skip
 (.exit n2))
 (.seq (.block n3 (.seq (.reg [q4, q5] fun c r s K => ixs n1 (r q24) (r q26) fun v0 => ld s v0 fun v1 => K [(r q26), v1] s)
 (.seq (.reg [q6] fun c r s K => ld s (r q1) fun v0 => ixs n50 v0 (r q4) fun v1 => K [v1] s)
 (.seq (.drw [] fun c r s K => (fun z m => dL z m n16 n0 s (r q1) fun v0 m s => ixs n50 v0 (r q5) fun v1 => ixA n50 n1 v1 I32 fun v2 => dL z m (nat_lit 256) (nat_lit 240) s v2 fun v3 m s => cnv .u64 (r q5) fun v4 => dL z m (nat_lit 2048) n0 s (r q1) fun v5 m s => ixs n50 v5 (r q5) fun v6 => ixA n50 n1 v6 I34 fun v7 => dL z m (nat_lit 32768) (nat_lit 30720) s v7 fun v8 m s => dL z m (nat_lit 65536) n0 s (r q1) fun v9 m s => ixs n50 v9 (r q5) fun v10 => ixA n50 n1 v10 I11 fun v11 => dL z m (nat_lit 1048576) (nat_lit 983040) s v11 fun v12 m s => xC (r q6) c r s fun v13 s => ixA n50 n1 v13 I35 fun v14 => dS z m (nat_lit 8388608) (nat_lit 8387057) s n1 v14 v3 fun _ m s => xC (r q6) c r s fun v16 s => ixA n50 n1 v16 I36 fun v17 => dS z m (nat_lit 67108864) (nat_lit 67108851) s n1 v17 v4 fun _ m s => xC (r q6) c r s fun v19 s => ixA n50 n1 v19 I37 fun v20 => dS z m (nat_lit 536870912) (nat_lit 536870903) s n1 v20 v8 fun _ m s => xC (r q6) c r s fun v22 s => ixA n50 n1 v22 I38 fun v23 => dS z m (nat_lit 4294967296) (nat_lit 4294967295) s n1 v23 v12 fun _ m s => K [] s) s.next mk0)
 (.seq (.seq (.reg [q67] fun c r s K => xC (r q6) c r s fun v0 s => ixA n50 n1 v0 I38 fun v1 => ld s v1 fun v2 => binK .eql v2 U0 fun v3 => K [v3] s)
 (.cond (.t q67) (.drw [] fun c r s K => (fun z m => xC (r q6) c r s fun v0 s => ixA n50 n1 v0 I37 fun v1 => dL z m n16 n14 s v1 fun v2 m s => xC (r q6) c r s fun v3 s => ixA n50 n1 v3 (i6 n41) fun v4 => dS z m n128 n127 s n1 v4 v2 fun _ m s => K [] s) s.next mk0)
 .skip))
 (.seq (.seq (.reg [q76] fun c r s K => binK .eql (r q4) I0 fun v0 => K [v0] s)
 (.cond (.t q76) (.exit n3)
 .skip))
 (.seq (.reg [q7] fun c r s K => ld s (r q1) fun v0 => binK .sub (r q4) I1 fun v1 => ixs n50 v0 v1 fun v2 => K [v2] s)
 (.seq (.drw [q89] fun c r s K => (fun z m => xC (r q7) c r s fun v0 s => ixA n50 n1 v0 I35 fun v1 => dL z m n8 n7 s v1 fun v2 m s => xC (r q6) c r s fun v3 s => ixA n50 n1 v3 I35 fun v4 => dL z m n128 n112 s v4 fun v5 m s => binK .eql v2 v5 fun v6 => K [v6] s) s.next mk0)
 (.cond (.t q89) (.drw [] fun c r s K => (fun z m => xC (r q6) c r s fun v0 s => ixA n50 n1 v0 I36 fun v1 => dL z m n32 n28 s v1 fun v2 m s => xC (r q7) c r s fun v3 s => ixA n50 n1 v3 I36 fun v4 => dL z m (nat_lit 512) (nat_lit 448) s v4 fun v5 m s => binK .sub v2 v5 fun v6 => binK .sub v6 U1 fun v7 => xC (r q7) c r s fun v8 s => ixA n50 n1 v8 I39 fun v9 => dS z m (nat_lit 16384) (nat_lit 13309) s n1 v9 U1 fun _ m s => xC (r q7) c r s fun v11 s => ixA n50 n1 v11 (i6 n40) fun v12 => dS z m (nat_lit 131072) (nat_lit 131071) s n1 v12 v7 fun _ m s => K [] s) s.next mk0)
 (.drw [] fun c r s K => (fun z m => xC (r q6) c r s fun v0 s => ixA n50 n1 v0 I35 fun v1 => dL z m n16 n14 s v1 fun v2 m s => xC (r q7) c r s fun v3 s => ixA n50 n1 v3 I35 fun v4 => dL z m (nat_lit 256) (nat_lit 224) s v4 fun v5 m s => binK .sub v2 v5 fun v6 => binK .sub v6 U1 fun v7 => xC (r q7) c r s fun v8 s => ixA n50 n1 v8 (i6 n40) fun v9 => dS z m (nat_lit 8192) (nat_lit 8191) s n1 v9 v7 fun _ m s => K [] s) s.next mk0))))))))))
 (.reg [q26] fun c r s K => binK .add (r q26) I1 fun v0 => K [v0] s))))))))))), [], [q0], [q8, q9, q10, q11, q15, q16, q17, q18, q19, q20, q21, q22, q23, q28, q29, q30, q31, q32, q33, q34, q35, q36, q37, q38, q39, q40, q41, q42, q43, q44, q45, q46, q47, q48, q49, q50, q51, q52, q53, q54, q55, q56, q57, q58, q59, q60, q61, q62, q63, q64, q65, q66, q68, q69, q70, q71, q72, q73, q74, q75, q77, q78, q79, q80, q81, q82, q83, q84, q85, q86, q87, q88, q90, q91, q92, q93, q94, q95, q96, q97, q98, q99, q100, q101, q102, q103, q104, q105, q106, q107, q108, q109, q110, q111, q112, q113, q114, q115, q116, q117, q118, q119]⟩
/- slices.SortFunc[[]int,int] -/
noncomputable def cf35 : HF := ⟨
(.seq (.reg [q4] fun c r s K => lnS (r q0) fun v0 => K [v0] s)
 (.reg [] fun c r s K => cnv .u64 (r q4) fun v0 => c n54 [v0] s fun v1 s => c n53 [(r q0), I0, (r q4), v1, (r q1)] s fun v2 s => K [] s)), [], [q0, q1], [q5, q6, q7, q8, q9, q10, q11, q12, q13]⟩
/- slices.pdqsortCmpFunc[int] -/
noncomputable def cf53 : HF := ⟨
(.seq (.reg [q10] fun c r s K => K [tt] s)
 (.seq (.reg [q11] fun c r s K => K [tt] s)
 (.block n0 (.loop (.block n1 (.seq (.reg [q12] fun c r s K => binK .sub (r q2) (r q1) fun v0 => K [v0] s)
 (.seq (.seq (.reg [q25] fun c r s K => binK .leq (r q12) I12 fun v0 => K [v0] s)
 (.cond (.t q25) (.seq (.reg [] fun c r s K => c n71 [(r q0), (r q1), (r q2), (r q4)] s fun v0 s => K [] s)
 .ret)
 .skip))
 (.seq (.seq (.reg [q32] fun c r s K => binK .eql (r q3) I0 fun v0 => K [v0] s)
 (.cond (.t q32) (.seq (.reg [] fun c r s K => c n72 [(r q0), (r q1), (r q2), (r q4)] s fun v0 s => K [] s)
 .ret)
 .skip))
 (.seq (.seq (.reg [q39] fun c r s K => nott (r q10) fun v0 => K [v0] s)
 (.cond (.t q39) (.seq (.reg [] fun c r s K => c n73 [(r q0), (r q1), (r q2), (r q4)] s fun v0 s => K [] s)
 (.reg [q3] fun c r s K => binK .sub (r q3) I1 fun v0 => K [v0] s))
 .skip))
 (.seq (.reg [q13, q14] fun c r s K => c n74 [(r q0), (r q1), (r q2), (r q4)] s fun v0 s => xE n0 v0 c r s fun v1 s => xE n1 v0 c r s fun v2 s => K [v1, v2] s)
 (.seq (.seq (.reg [q56] fun c r s K => binK .eql (r q14) I2 fun v0 => K [v0] s)
 (.cond (.t q56) (.seq (.reg [] fun c r s K => c n75 [(r q0), (r q1), (r q2), (r q4)] s fun v0 s => K [] s)
 (.seq (.reg [q13] fun c r s K => binK .sub (r q2) I1 fun v0 => binK .sub (r q13) (r q1) fun v1 => binK .sub v0 v1 fun v2 => K [v2] s)
 (.reg [q14] fun c r s K => K [I1] s)))
 .skip))
 (.seq (.seq (.reg [q75] fun c r s K => mt (r q10) (r q11) s fun v0 s => pck (r q10) v0 ff fun v1 => mt v1 (r q14) s fun v2 s => jt v1 (binK .eql v2 I1) s fun v3 s => pck v1 v3 ff fun v4 => K [v4] s)
 (.cond (.t q75) (.seq (.reg [q80] fun c r s K => c n76 [(r q0), (r q1), (r q2), (r q4)] s fun v0 s => K [v0] s)
 (.cond (.t q80) .ret
 .skip))
 .skip))
 (.seq (.seq (.drw [q97] fun c r s K => (fun z m => binK .gtr (r q1) I0 fun v0 => jnD true v0 (fun jj => jj (r q4) m s) m s fun v1 m s => jnD true v0 (fun jj => jj (r q0) m s) m s fun v2 m s => jnD true v0 (fun jj => jj (r q1) m s) m s fun v3 m s => jnD true v0 (fun jj => binK .sub v3 I1 fun v => jj v m s) m s fun v4 m s => jnD true v0 (fun jj => ixs n1 v2 v4 fun v => jj v m s) m s fun v5 m s => jnD true v0 (fun jj => dL z m (nat_lit 256) (nat_lit 247) s v5 jj) m s fun v6 m s => jnD true v0 (fun jj => jj (r q0) m s) m s fun v7 m s => jnD true v0 (fun jj => jj (r q13) m s) m s fun v8 m s => jnD true v0 (fun jj => ixs n1 v7 v8 fun v => jj v m s) m s fun v9 m s => jnD true v0 (fun jj => dL z m (nat_lit 4096) (nat_lit 3591) s v9 jj) m s fun v10 m s => jnD true v0 (fun jj => dw3 m (nat_lit 8192) (nat_lit 8191) s (fun s q => h_op4_callV (.c v1) [(.c v6), (.c v10)] c r s q) jj) m s fun v11 m s => jnD true v0 (fun jj => binK .lss v11 I0 fun v => jj v m s) m s fun v12 m s => jnD true v0 (fun jj => nott v12 fun v => jj v m s) m s fun v13 m s => pck v0 v13 ff fun v14 => K [v14] s) s.next mk0)
 (.cond (.t q97) (.seq (.reg [q15] fun c r s K => c n77 [(r q0), (r q1), (r q2), (r q13), (r q4)] s fun v0 s => K [v0] s)
 (.seq (.reg [q1] fun c r s K => K [(r q15)] s)
 (.exit n1)))
 .skip))
 (.seq (.reg [q16, q17] fun c r s K => c n78 [(r q0), (r q1), (r q2), (r q13), (r q4)] s fun v0 s => xE n0 v0 c r s fun v1 s => xE n1 v0 c r s fun v2 s => K [v1, v2] s)
 (.seq (.reg [q11] fun c r s K => K [(r q17)] s)
 (.seq (.reg [q18, q19] fun c r s K => binK .sub (r q16) (r q1) fun v0 => binK .sub (r q2) (r q16) fun v1 => K [v0, v1] s)
 (.seq (.reg [q20] fun c r s K => binK .quo (r q12) I8 fun v0 => K [v0] s)
 (.seq (.reg [q125] fun c r s K => binK .lss (r q18) (r q19) fun v0 => K [v0] s)
 (.cond (.t q125) (.seq (.reg [q10] fun c r s K => binK .geq (r q18) (r q20) fun v0 => K [v0] s)
 (.seq (.reg [] fun c r s K => c n53 [(r q0), (r q1), (r q16), (r q3), (r q4)] s fun v0 s => K [] s)
 (.reg [q1] fun c r s K => binK .add (r q16) I1 fun v0 => K [v0] s)))
 (.seq (.reg [q10] fun c r s K => binK .geq (r q19) (r q20) fun v0 => K [v0] s)
 (.seq (.reg [] fun c r s K => binK .add (r q16) I1 fun v0 => c n53 [(r q0), v0, (r q2), (r q3), (r q4)] s fun v1 s => K [] s)
 (.reg [q2] fun c r s K => K [(r q16)] s)))))))))))))))))))))), [], [q0, q1, q2, q3, q4], [q21, q22, q23, q24, q26, q27, q28, q29, q30, q31, q33, q34, q35, q36, q37, q38, q40, q41, q42, q43, q44, q45, q46, q48, q49, q50, q51, q52, q47, q53, q54, q55, q57, q58, q59, q60, q61, q62, q63, q64, q65, q66, q67, q68, q69, q70, q71, q72, q73, q74, q76, q77, q78, q79, q81, q82, q83, q84, q85, q86, q87, q88, q89, q90, q91, q92, q93, q94, q95, q96, q98, q99, q100, q101, q102, q103, q104, q106, q107, q108, q109, q110, q111, q105, q112, q113, q114, q115, q116, q117, q118, q119, q120, q121, q122, q123, q124, q126, q127, q128, q129, q130, q131, q132, q133, q134, q135, q136, q137, q138, q139, q140, q141, q142, q143, q144, q145, q146, q147]⟩
/- slices.partitionCmpFunc[int] -/
noncomputable def cf78 : HF := ⟨
(.seq (.reg [q10, q11] fun c r s K => K [I0, ff] s)
 (.seq (.drw [] fun c r s K => (fun z m => ixs n1 (r q0) (r q3) fun v0 => dL z m n128 n112 s v0 fun v1 m s => ixs n1 (r q0) (r q1) fun v2 => dL z m (nat_lit 2048) (nat_lit 1792) s v2 fun v3 m s => ixs n1 (r q0) (r q1) fun v4 => dS z m (nat_lit 8192) (nat_lit 8179) s n1 v4 v1 fun _ m s => ixs n1 (r q0) (r q3) fun v6 => dS z m (nat_lit 32768) (nat_lit 32767) s n1 v6 v3 fun _ m s => K [] s) s.next mk0)
 (.seq (.reg [q12, q13] fun c r s K => binK .add (r q1) I1 fun v0 => binK .sub (r q2) I1 fun v1 => K [v0, v1] s)
 (.seq (.block n0 (.loop (.seq (.seq (.drw [q47] fun c r s K => (fun z m => binK .leq (r q12) (r q13) fun v0 => jnD true v0 (fun jj => jj (r q4) m s) m s fun v1 m s => jnD true v0 (fun jj => jj (r q0) m s) m s fun v2 m s => jnD true v0 (fun jj => jj (r q12) m s) m s fun v3 m s => jnD true v0 (fun jj => ixs n1 v2 v3 fun v => jj v m s) m s fun v4 m s => jnD true v0 (fun jj => dL z m (nat_lit 256) (nat_lit 239) s v4 jj) m s fun v5 m s => jnD true v0 (fun jj => jj (r q0) m s) m s fun v6 m s => jnD true v0 (fun jj => jj (r q1) m s) m s fun v7 m s => jnD true v0 (fun jj => ixs n1 v6 v7 fun v => jj v m s) m s fun v8 m s => jnD true v0 (fun jj => dL z m (nat_lit 4096) (nat_lit 3599) s v8 jj) m s fun v9 m s => jnD true v0 (fun jj => dw3 m (nat_lit 8192) (nat_lit 8191) s (fun s q => h_op4_callV (.c v1) [(.c v5), (.c v9)] c r s q) jj) m s fun v10 m s => jnD true v0 (fun jj => binK .lss v10 I0 fun v => jj v m s) m s fun v11 m s => pck v0 v11 ff fun v12 => K [v12] s) s.next mk0)
 (.cond (.t q47) .skip
 (.exit n0)))
 (.block n1 (.reg [q12] fun c r s K => binK .add (r q12) I1 fun v0 => K [v0] s)))))
 (.seq (.block n2 (.loop (.seq (.seq (.drw [q66] fun c r s K => (fun z m => binK .leq (r q12) (r q13) fun v0 => jnD true v0 (fun jj => jj (r q4) m s) m s fun v1 m s => jnD true v0 (fun jj => jj (r q0) m s) m s fun v2 m s => jnD true v0 (fun jj => jj (r q13) m s) m s fun v3 m s => jnD true v0 (fun jj => ixs n1 v2 v3 fun v => jj v m s) m s fun v4 m s => jnD true v0 (fun jj => dL z m (nat_lit 256) (nat_lit 239) s v4 jj) m s fun v5 m s => jnD true v0 (fun jj => jj (r q0) m s) m s fun v6 m s => jnD true v0 (fun jj => jj (r q1) m s) m s fun v7 m s => jnD true v0 (fun jj => ixs n1 v6 v7 fun v => jj v m s) m s fun v8 m s => jnD true v0 (fun jj => dL z m (nat_lit 4096) (nat_lit 3599) s v8 jj) m s fun v9 m s => jnD true v0 (fun jj => dw3 m (nat_lit 8192) (nat_lit 8191) s (fun s q => h_op4_callV (.c v1) [(.c v5), (.c v9)] c r s q) jj) m s fun v10 m s => jnD true v0 (fun jj => binK .lss v10 I0 fun v => jj v m s) m s fun v11 m s => jnD true v0 (fun jj => nott v11 fun v => jj v m s) m s fun v12 m s => pck v0 v12 ff fun v13 => K [v13] s) s.next mk0)
 (.cond (.t q66) .skip
 (.exit n2)))
 (.block n3 (.reg [q13] fun c r s K => binK .sub (r q13) I1 fun v0 => K [v0] s)))))
 (.seq (.seq (.reg [q71] fun c r s K => binK .gtr (r q12) (r q13) fun v0 => K [v0] s)
 (.cond (.t q71) (.seq (.drw [] fun c r s K => (fun z m => ixs n1 (r q0) (r q1) fun v0 => dL z m n128 n112 s v0 fun v1 m s => ixs n1 (r q0) (r q13) fun v2 => dL z m (nat_lit 2048) (nat_lit 1792) s v2 fun v3 m s => ixs n1 (r q0) (r q13) fun v4 => dS z m (nat_lit 8192) (nat_lit 8179) s n1 v4 v1 fun _ m s => ixs n1 (r q0) (r q1) fun v6 => dS z m (nat_lit 32768) (nat_lit 32767) s n1 v6 v3 fun _ m s => K [] s) s.next mk0)
 (.seq (.reg [q10, q11] fun c r s K => K [(r q13), tt] s)
 .ret))
 .skip))
 (.seq (.drw [] fun c r s K => (fun z m => ixs n1 (r q0) (r q13) fun v0 => dL z m n128 n112 s v0 fun v1 m s => ixs n1 (r q0) (r q12) fun v2 => dL z m (nat_lit 2048) (nat_lit 1792) s v2 fun v3 m s => ixs n1 (r q0) (r q12) fun v4 => dS z m (nat_lit 8192) (nat_lit 8179) s n1 v4 v1 fun _ m s => ixs n1 (r q0) (r q13) fun v6 => dS z m (nat_lit 32768) (nat_lit 32767) s n1 v6 v3 fun _ m s => K [] s) s.next mk0)
 (.seq (.reg [q12] fun c r s K => binK .add (r q12) I1 fun v0 => K [v0] s)
 (.seq (.reg [q13] fun c r s K => binK .sub (r q13) I1 fun v0 => K [v0] s)
 (.seq (.block n4 (.loop (.block n5 (.seq (.block n6 (.loop (.seq (.seq (.drw [q120] fun c r s K => (fun z m => binK .leq (r q12) (r q13) fun v0 => jnD true v0 (fun jj => jj (r q4) m s) m s fun v1 m s => jnD true v0 (fun jj => jj (r q0) m s) m s fun v2 m s => jnD true v0 (fun jj => jj (r q12) m s) m s fun v3 m s => jnD true v0 (fun jj => ixs n1 v2 v3 fun v => jj v m s) m s fun v4 m s => jnD true v0 (fun jj => dL z m (nat_lit 256) (nat_lit 239) s v4 jj) m s fun v5 m s => jnD true v0 (fun jj => jj (r q0) m s) m s fun v6 m s => jnD true v0 (fun jj => jj (r q1) m s) m s fun v7 m s => jnD true v0 (fun jj => ixs n1 v6 v7 fun v => jj v m s) m s fun v8 m s => jnD true v0 (fun jj => dL z m (nat_lit 4096) (nat_lit 3599) s v8 jj) m s fun v9 m s => jnD true v0 (fun jj => dw3 m (nat_lit 8192) (nat_lit 8191) s (fun s q => h_op4_callV (.c v1) [(.c v5), (.c v9)] c r s q) jj) m s fun v10 m s => jnD true v0 (fun jj => binK .lss v10 I0 fun v => jj v m s) m s fun v11 m s => pck v0 v11 ff fun v12 => K [v12] s) s.next mk0)
 (.cond (.t q120) .skip
 (.exit n6)))
 (.block n7 (.reg [q12] fun c r s K => binK .add (r q12) I1 fun v0 => K [v0] s)))))
 (.seq (.block n8 (.loop (.seq (.seq (.drw [q139] fun c r s K => (fun z m => binK .leq (r q12) (r q13) fun v0 => jnD true v0 (fun jj => jj (r q4) m s) m s fun v1 m s => jnD true v0 (fun jj => jj (r q0) m s) m s fun v2 m s => jnD true v0 (fun jj => jj (r q13) m s) m s fun v3 m s => jnD true v0 (fun jj => ixs n1 v2 v3 fun v => jj v m s) m s fun v4 m s => jnD true v0 (fun jj => dL z m (nat_lit 256) (nat_lit 239) s v4 jj) m s fun v5 m s => jnD true v0 (fun jj => jj (r q0) m s) m s fun v6 m s => jnD true v0 (fun jj => jj (r q1) m s) m s fun v7 m s => jnD true v0 (fun jj => ixs n1 v6 v7 fun v => jj v m s) m s fun v8 m s => jnD true v0 (fun jj => dL z m (nat_lit 4096) (nat_lit 3599) s v8 jj) m s fun v9 m s => jnD true v0 (fun jj => dw3 m (nat_lit 8192) (nat_lit 8191) s (fun s q => h_op4_callV (.c v1) [(.c v5), (.c v9)] c r s q) jj) m s fun v10 m s => jnD true v0 (fun jj => binK .lss v10 I0 fun v => jj v m s) m s fun v11 m s => jnD true v0 (fun jj => nott v11 fun v => jj v m s) m s fun v12 m s => pck v0 v12 ff fun v13 => K [v13] s) s.next mk0)
 (.cond (.t q139) .skip
 (.exit n8)))
 (.block n9 (.reg [q13] fun c r s K => binK .sub (r q13) I1 fun v0 => K [v0] s)))))
 (.seq (.seq (.reg [q144] fun c r s K => binK .gtr (r q12) (r q13) fun v0 => K [v0] s)
 (.cond (.t q144) (.exit n4)
 .skip))
 (.seq (.drw [] fun c r s K => (fun z m => ixs n1 (r q0) (r q13) fun v0 => dL z m n128 n112 s v0 fun v1 m s => ixs n1 (r q0) (r q12) fun v2 => dL z m (nat_lit 2048) (nat_lit 1792) s v2 fun v3 m s => ixs n1 (r q0) (r q12) fun v4 => dS z m (nat_lit 8192) (nat_lit 8179) s n1 v4 v1 fun _ m s => ixs n1 (r q0) (r q13) fun v6 => dS z m (nat_lit 32768) (nat_lit 32767) s n1 v6 v3 fun _ m s => K [] s) s.next mk0)
 (.seq (.reg [q12] fun c r s K => binK .add (r q12) I1 fun v0 => K [v0] s)
 (.reg [q13] fun c r s K => binK .sub (r q13) I1 fun v0 => K [v0] s)))))))))
 (.seq (.drw [] fun c r s K => (fun z m => ixs n1 (r q0) (r q1) fun v0 => dL z m n128 n112 s v0 fun v1 m s => ixs n1 (r q0) (r q13) fun v2 => dL z m (nat_lit 2048) (nat_lit 1792) s v2 fun v3 m s => ixs n1 (r q0) (r q13) fun v4 => dS z m (nat_lit 8192) (nat_lit 8179) s n1 v4 v1 fun _ m s => ixs n1 (r q0) (r q1) fun v6 => dS z m (nat_lit 32768) (nat_lit 32767) s n1 v6 v3 fun _ m s => K [] s) s.next mk0)
 (.seq (.reg [q10, q11] fun c r s K => K [(r q13), ff] s)
 .ret)))))))))))), [(.tmp q10), (.tmp q11)], [q0, q1, q2, q3, q4], [q14, q15, q16, q17, q18, q19, q20, q21, q22, q23, q24, q25, q26, q27, q28, q29, q30, q31, q32, q33, q34, q35, q36, q37, q38, q39, q40, q41, q42, q43, q44, q45, q46, q48, q49, q50, q51, q52, q53, q54, q55, q56, q57, q58, q59, q60, q61, q62, q63, q64, q65, q67, q68, q69, q70, q72, q73, q74, q75, q76, q77, q78, q79, q80, q81, q82, q83, q84, q85, q86, q87, q88, q89, q90, q91, q92, q93, q94, q95, q96, q97, q98, q99, q100, q101, q102, q103, q104, q105, q106, q107, q108, q109, q110, q111, q112, q113, q114, q115, q116, q117, q118, q119, q121, q122, q123, q124, q125, q126, q127, q128, q129, q130, q131, q132, q133, q134, q135, q136, q137, q138, q140, q141, q142, q143, q145, q146, q147, q148, q149, q150, q151, q152, q153, q154, q155, q156, q157, q158, q159, q160, q161, q162, q163, q164, q165, q166, q167, q168, q169, q170, q171, q172, q173, q174, q175, q176, q177]⟩
/- slices.partitionEqualCmpFunc[int] -/
noncomputable def cf77 : HF := ⟨
(.seq (.reg [q10] fun c r s K => K [I0] s)
 (.seq (.drw [] fun c r s K => (fun z m => ixs n1 (r q0) (r q3) fun v0 => dL z m n128 n112 s v0 fun v1 m s => ixs n1 (r q0) (r q1) fun v2 => dL z m (nat_lit 2048) (nat_lit 1792) s v2 fun v3 m s => ixs n1 (r q0) (r q1) fun v4 => dS z m (nat_lit 8192) (nat_lit 8179) s n1 v4 v1 fun _ m s => ixs n1 (r q0) (r q3) fun v6 => dS z m (nat_lit 32768) (nat_lit 32767) s n1 v6 v3 fun _ m s => K [] s) s.next mk0)
 (.seq (.reg [q11, q12] fun c r s K => binK .add (r q1) I1 fun v0 => binK .sub (r q2) I1 fun v1 => K [v0, v1] s)
 (.seq (.block n0 (.loop (.block n1 (.seq (.block n2 (.loop (.seq (.seq (.drw [q47] fun c r s K => (fun z m => binK .leq (r q11) (r q12) fun v0 => jnD true v0 (fun jj => jj (r q4) m s) m s fun v1 m s => jnD true v0 (fun jj => jj (r q0) m s) m s fun v2 m s => jnD true v0 (fun jj => jj (r q1) m s) m s fun v3 m s => jnD true v0 (fun jj => ixs n1 v2 v3 fun v => jj v m s) m s fun v4 m s => jnD true v0 (fun jj => dL z m (nat_lit 256) (nat_lit 239) s v4 jj) m s fun v5 m s => jnD true v0 (fun jj => jj (r q0) m s) m s fun v6 m s => jnD true v0 (fun jj => jj (r q11) m s) m s fun v7 m s => jnD true v0 (fun jj => ixs n1 v6 v7 fun v => jj v m s) m s fun v8 m s => jnD true v0 (fun jj => dL z m (nat_lit 4096) (nat_lit 3599) s v8 jj) m s fun v9 m s => jnD true v0 (fun jj => dw3 m (nat_lit 8192) (nat_lit 8191) s (fun s q => h_op4_callV (.c v1) [(.c v5), (.c v9)] c r s q) jj) m s fun v10 m s => jnD true v0 (fun jj => binK .lss v10 I0 fun v => jj v m s) m s fun v11 m s => jnD true v0 (fun jj => nott v11 fun v => jj v m s) m s fun v12 m s => pck v0 v12 ff fun v13 => K [v13] s) s.next mk0)
 (.cond (.t q47) .skip
 (.exit n2)))
 (.block n3 (.reg [q11] fun c r s K => binK .add (r q11) I1 fun v0 => K [v0] s)))))
 (.seq (.block n4 (.loop (.seq (.seq (.drw [q65] fun c r s K => (fun z m => binK .leq (r q11) (r q12) fun v0 => jnD true v0 (fun jj => jj (r q4) m s) m s fun v1 m s => jnD true v0 (fun jj => jj (r q0) m s) m s fun v2 m s => jnD true v0 (fun jj => jj (r q1) m s) m s fun v3 m s => jnD true v0 (fun jj => ixs n1 v2 v3 fun v => jj v m s) m s fun v4 m s => jnD true v0 (fun jj => dL z m (nat_lit 256) (nat_lit 239) s v4 jj) m s fun v5 m s => jnD true v0 (fun jj => jj (r q0) m s) m s fun v6 m s => jnD true v0 (fun jj => jj (r q12) m s) m s fun v7 m s => jnD true v0 (fun jj => ixs n1 v6 v7 fun v => jj v m s) m s fun v8 m s => jnD true v0 (fun jj => dL z m (nat_lit 4096) (nat_lit 3599) s v8 jj) m s fun v9 m s => jnD true v0 (fun jj => dw3 m (nat_lit 8192) (nat_lit 8191) s (fun s q => h_op4_callV (.c v1) [(.c v5), (.c v9)] c r s q) jj) m s fun v10 m s => jnD true v0 (fun jj => binK .lss v10 I0 fun v => jj v m s) m s fun v11 m s => pck v0 v11 ff fun v12 => K [v12] s) s.next mk0)
 (.cond (.t q65) .skip
 (.exit n4)))
 (.block n5 (.reg [q12] fun c r s K => binK .sub (r q12) I1 fun v0 => K [v0] s)))))
 (.seq (.seq (.reg [q70] fun c r s K => binK .gtr (r q11) (r q12) fun v0 => K [v0] s)
 (.cond (.t q70) (.exit n0)
 .skip))
 (.seq (.drw [] fun c r s K => (fun z m => ixs n1 (r q0) (r q12) fun v0 => dL z m n128 n112 s v0 fun v1 m s => ixs n1 (r q0) (r q11) fun v2 => dL z m (nat_lit 2048) (nat_lit 1792) s v2 fun v3 m s => ixs n1 (r q0) (r q11) fun v4 => dS z m (nat_lit 8192) (nat_lit 8179) s n1 v4 v1 fun _ m s => ixs n1 (r q0) (r q12) fun v6 => dS z m (nat_lit 32768) (nat_lit 32767) s n1 v6 v3 fun _ m s => K [] s) s.next mk0)
 (.seq (.reg [q11] fun c r s K => binK .add (r q11) I1 fun v0 => K [v0] s)
 (.reg [q12] fun c r s K => binK .sub (r q12) I1 fun v0 => K [v0] s)))))))))
 (.seq (.reg [q10] fun c r s K => K [(r q11)] s)
 .ret))))), [(.tmp q10)], [q0, q1, q2, q3, q4], [q13, q14, q15, q16, q17, q18, q19, q20, q21, q22, q23, q24, q25, q26, q27, q28, q29, q30, q31, q32, q33, q34, q35, q36, q37, q38, q39, q40, q41, q42, q43, q44, q45, q46, q48, q49, q50, q51, q52, q53, q54, q55, q56, q57, q58, q59, q60, q61, q62, q63, q64, q66, q67, q68, q69, q71, q72, q73, q74, q75, q76, q77, q78, q79, q80, q81, q82, q83, q84, q85, q86, q87, q88, q89]⟩
/- slices.partialInsertionSortCmpFunc[int] -/
noncomputable def cf76 : HF := ⟨
(.seq (.reg [q8] fun c r s K => K [ff] s)
 (.seq (.reg [q9] fun c r s K => binK .add (r q1) I1 fun v0 => K [v0] s)
 (.seq (.seq (.reg [q10] fun c r s K => K [I0] s)
 (.block n0 (.loop (.seq (.seq (.reg [q16] fun c r s K => binK .lss (r q10) I5 fun v0 => K [v0] s)
 (.cond (.t q16) .skip
 (.exit n0)))
 (.seq (.block n1 (.seq (.block n2 (.loop (.seq (.seq (.drw [q36] fun c r s K => (fun z m => binK .lss (r q9) (r q2) fun v0 => jnD true v0 (fun jj => jj (r q3) m s) m s fun v1 m s => jnD true v0 (fun jj => jj (r q0) m s) m s fun v2 m s => jnD true v0 (fun jj => jj (r q9) m s) m s fun v3 m s => jnD true v0 (fun jj => ixs n1 v2 v3 fun v => jj v m s) m s fun v4 m s => jnD true v0 (fun jj => dL z m (nat_lit 256) (nat_lit 239) s v4 jj) m s fun v5 m s => jnD true v0 (fun jj => jj (r q0) m s) m s fun v6 m s => jnD true v0 (fun jj => jj (r q9) m s) m s fun v7 m s => jnD true v0 (fun jj => binK .sub v7 I1 fun v => jj v m s) m s fun v8 m s => jnD true v0 (fun jj => ixs n1 v6 v8 fun v => jj v m s) m s fun v9 m s => jnD true v0 (fun jj => dL z m (nat_lit 8192) (nat_lit 7695) s v9 jj) m s fun v10 m s => jnD true v0 (fun jj => dw3 m (nat_lit 16384) (nat_lit 16383) s (fun s q => h_op4_callV (.c v1) [(.c v5), (.c v10)] c r s q) jj) m s fun v11 m s => jnD true v0 (fun jj => binK .lss v11 I0 fun v => jj v m s) m s fun v12 m s => jnD true v0 (fun jj => nott v12 fun v => jj v m s) m s fun v13 m s => pck v0 v13 ff fun v14 => K [v14] s) s.next mk0)
 (.cond (.t q36) .skip
 (.exit n2)))
 (.block n3 (.reg [q9] fun c r s K => binK .add (r q9) I1 fun v0 => K [v0] s)))))
 (.seq (.seq (.reg [q41] fun c r s K => binK .eql (r q9) (r q2) fun v0 => K [v0] s)
 (.cond (.t q41) (.seq (.reg [q8] fun c r s K => K [tt] s)
 .ret)
 .skip))
 (.seq (.seq (.reg [q45] fun c r s K => binK .sub (r q2) (r q1) fun v0 => binK .lss v0 (i6 n50) fun v1 => K [v1] s)
 (.cond (.t q45) (.seq (.reg [q8] fun c r s K => K [ff] s)
 .ret)
 .skip))
 (.seq (.drw [] fun c r s K => (fun z m => binK .sub (r q9) I1 fun v0 => binK .sub (r q9) I1 fun v1 => ixs n1 (r q0) v1 fun v2 => dL z m (nat_lit 512) (nat_lit 480) s v2 fun v3 m s => ixs n1 (r q0) (r q9) fun v4 => dL z m (nat_lit 8192) (nat_lit 7168) s v4 fun v5 m s => ixs n1 (r q0) (r q9) fun v6 => dS z m (nat_lit 32768) (nat_lit 32739) s n1 v6 v3 fun _ m s => ixs n1 (r q0) v0 fun v8 => dS z m (nat_lit 131072) (nat_lit 131071) s n1 v8 v5 fun _ m s => K [] s) s.next mk0)
 (.seq (.seq (.reg [q65] fun c r s K => binK .sub (r q9) (r q1) fun v0 => binK .geq v0 I2 fun v1 => K [v1] s)
 (.cond (.t q65) (.seq (.reg [q11] fun c r s K => binK .sub (r q9) I1 fun v0 => K [v0] s)
 (.block n4 (.loop (.seq (.seq (.reg [q69] fun c r s K => binK .geq (r q11) I1 fun v0 => K [v0] s)
 (.cond (.t q69) .skip
 (.exit n4)))
 (.seq (.block n5 (.seq (.seq (.drw [q84] fun c r s K => (fun z m => ixs n1 (r q0) (r q11) fun v0 => dL z m n16 n14 s v0 fun v1 m s => binK .sub (r q11) I1 fun v2 => ixs n1 (r q0) v2 fun v3 => dL z m (nat_lit 512) (nat_lit 480) s v3 fun v4 m s => dw3 m (nat_lit 1024) (nat_lit 1023) s (fun s q => h_op4_callV (.c (r q3)) [(.c v1), (.c v4)] c r s q) fun v5 m s => binK .lss v5 I0 fun v6 => nott v6 fun v7 => K [v7] s) s.next mk0)
 (.cond (.t q84) (.exit n4)
 .skip))
 (.drw [] fun c r s K => (fun z m => binK .sub (r q11) I1 fun v0 => binK .sub (r q11) I1 fun v1 => ixs n1 (r q0) v1 fun v2 => dL z m (nat_lit 512) (nat_lit 480) s v2 fun v3 m s => ixs n1 (r q0) (r q11) fun v4 => dL z m (nat_lit 8192) (nat_lit 7168) s v4 fun v5 m s => ixs n1 (r q0) (r q11) fun v6 => dS z m (nat_lit 32768) (nat_lit 32739) s n1 v6 v3 fun _ m s => ixs n1 (r q0) v0 fun v8 => dS z m (nat_lit 131072) (nat_lit 131071) s n1 v8 v5 fun _ m s => K [] s) s.next mk0)))
 (.reg [q11] fun c r s K => binK .sub (r q11) I1 fun v0 => K [v0] s))))))
 .skip))
 (.seq (.reg [q104] fun c r s K => binK .sub (r q2) (r q9) fun v0 => binK .geq v0 I2 fun v1 => K [v1] s)
 (.cond (.t q104) (.seq (.reg [q12] fun c r s K => binK .add (r q9) I1 fun v0 => K [v0] s)
 (.block n6 (.loop (.seq (.seq (.reg [q109] fun c r s K => binK .lss (r q12) (r q2) fun v0 => K [v0] s)
 (.cond (.t q109) .skip
 (.exit n6)))
 (.seq (.block n7 (.seq (.seq (.drw [q124] fun c r s K => (fun z m => ixs n1 (r q0) (r q12) fun v0 => dL z m n16 n14 s v0 fun v1 m s => binK .sub (r q12) I1 fun v2 => ixs n1 (r q0) v2 fun v3 => dL z m (nat_lit 512) (nat_lit 480) s v3 fun v4 m s => dw3 m (nat_lit 1024) (nat_lit 1023) s (fun s q => h_op4_callV (.c (r q3)) [(.c v1), (.c v4)] c r s q) fun v5 m s => binK .lss v5 I0 fun v6 => nott v6 fun v7 => K [v7] s) s.next mk0)
 (.cond (.t q124) (.exit n6)
 .skip))
 (.drw [] fun c r s K => (fun z m => binK .sub (r q12) I1 fun v0 => binK .sub (r q12) I1 fun v1 => ixs n1 (r q0) v1 fun v2 => dL z m (nat_lit 512) (nat_lit 480) s v2 fun v3 m s => ixs n1 (r q0) (r q12) fun v4 => dL z m (nat_lit 8192) (nat_lit 7168) s v4 fun v5 m s => ixs n1 (r q0) (r q12) fun v6 => dS z m (nat_lit 32768) (nat_lit 32739) s n1 v6 v3 fun _ m s => ixs n1 (r q0) v0 fun v8 => dS z m (nat_lit 131072) (nat_lit 131071) s n1 v8 v5 fun _ m s => K [] s) s.next mk0)))
 (.reg [q12] fun c r s K => binK .add (r q12) I1 fun v0 => K [v0] s))))))
 .skip))))))))
 (.reg [q10] fun c r s K => binK .add (r q10) I1 fun v0 => K [v0] s))))))
 (.seq (.reg [q8] fun c r s K => K [ff] s)
 .ret)))), [(.tmp q8)], [q0, q1, q2, q3], [q13, q14, q15, q19, q20, q21, q22, q23, q24, q25, q26, q27, q28, q29, q30, q31, q32, q33, q34, q35, q37, q38, q39, q40, q42, q43, q44, q46, q47, q48, q49, q50, q51, q52, q53, q54, q55, q56, q57, q58, q59, q60, q61, q62, q63, q64, q66, q67, q68, q72, q73, q74, q75, q76, q77, q78, q79, q80, q81, q82, q83, q85, q86, q87, q88, q89, q90, q91, q92, q93, q94, q95, q96, q97, q98, q99, q100, q70, q71, q101, q102, q103, q105, q106, q107, q108, q112, q113, q114, q115, q116, q117, q118, q119, q120, q121, q122, q123, q125, q126, q127, q128, q129, q130, q131, q132, q133, q134, q135, q136, q137, q138, q139, q140, q110, q111, q17, q18]⟩
/- slices.reverseRangeCmpFunc[int] -/
noncomputable def cf75 : HF := ⟨
(.seq (.reg [q8] fun c r s K => K [(r q1)] s)
 (.seq (.reg [q9] fun c r s K => binK .sub (r q2) I1 fun v0 => K [v0] s)
 (.block n0 (.loop (.seq (.seq (.reg [q15] fun c r s K => binK .lss (r q8) (r q9) fun v0 => K [v0] s)
 (.cond (.t q15) .skip
 (.exit n0)))
 (.block n1 (.seq (.drw [] fun c r s K => (fun z m => ixs n1 (r q0) (r q9) fun v0 => dL z m n128 n112 s v0 fun v1 m s => ixs n1 (r q0) (r q8) fun v2 => dL z m (nat_lit 2048) (nat_lit 1792) s v2 fun v3 m s => ixs n1 (r q0) (r q8) fun v4 => dS z m (nat_lit 8192) (nat_lit 8179) s n1 v4 v1 fun _ m s => ixs n1 (r q0) (r q9) fun v6 => dS z m (nat_lit 32768) (nat_lit 32767) s n1 v6 v3 fun _ m s => K [] s) s.next mk0)
 (.seq (.reg [q8] fun c r s K => binK .add (r q8) I1 fun v0 => K [v0] s)
 (.reg [q9] fun c r s K => binK .sub (r q9) I1 fun v0 => K [v0] s))))))))), [], [q0, q1, q2, q3], [q10, q11, q12, q13, q14, q16, q17, q18, q19, q20, q21, q22, q23, q24, q25, q26, q27, q28, q29, q30, q31, q32, q33]⟩
/- slices.choosePivotCmpFunc[int] -/
noncomputable def cf74 : HF := ⟨
(.seq (.reg [q8, q9] fun c r s K => K [I0, I0] s)
 (.seq (.reg [q10] fun c r s K => binK .sub (r q2) (r q1) fun v0 => K [v0] s)
 (.seq (.reg [q11] fun c r s K => alc s [zi] fun v0 s => K [v0] s)
 (.seq (.reg [q12] fun c r s K => binK .quo (r q10) I4 fun v0 => binK .mul v0 I1 fun v1 => binK .add (r q1) v1 fun v2 => K [v2] s)
 (.seq (.reg [q13] fun c r s K => binK .quo (r q10) I4 fun v0 => binK .mul v0 I2 fun v1 => binK .add (r q1) v1 fun v2 => K [v2] s)
 (.seq (.reg [q14] fun c r s K => binK .quo (r q10) I4 fun v0 => binK .mul v0 I3 fun v1 => binK .add (r q1) v1 fun v2 => K [v2] s)
 (.seq (.seq (.reg [q34] fun c r s K => binK .geq (r q10) I8 fun v0 => K [v0] s)
 (.cond (.t q34) (.seq (.seq (.reg [q36] fun c r s K => binK .geq (r q10) (i6 n50) fun v0 => K [v0] s)
 (.cond (.t q36) (.seq (.reg [q12] fun c r s K => c n89 [(r q0), (r q12), (r q11), (r q3)] s fun v0 s => K [v0] s)
 (.seq (.reg [q13] fun c r s K => c n89 [(r q0), (r q13), (r q11), (r q3)] s fun v0 s => K [v0] s)
 (.reg [q14] fun c r s K => c n89 [(r q0), (r q14), (r q11), (r q3)] s fun v0 s => K [v0] s)))
 .skip))
 (.reg [q13] fun c r s K => c n90 [(r q0), (r q12), (r q13), (r q14), (r q11), (r q3)] s fun v0 s => K [v0] s))
 .skip))
 (.seq (.reg [q55] fun c r s K => ld s (r q11) fun v0 => K [v0] s)
 (.block n0 (.seq (.reg [q57] fun c r s K => binK .eql (r q55) I0 fun v0 => K [v0] s)
 (.cond (.t q57) (.seq (.reg [q8, q9] fun c r s K => K [(r q13), I1] s)
 .ret)
 (.seq (.reg [q60] fun c r s K => binK .eql (r q55) I12 fun v0 => K [v0] s)
 (.cond (.t q60) (.seq (.reg [q8, q9] fun c r s K => K [(r q13), I2] s)
 .ret)
 (.seq (.reg [q8, q9] fun c r s K => K [(r q13), I0] s)
 .ret)))))))))))))), [(.tmp q8), (.tmp q9)], [q0, q1, q2, q3], [q15, q16, q17, q18, q19, q20, q21, q22, q23, q24, q25, q26, q27, q28, q29, q30, q31, q32, q33, q35, q37, q38, q39, q40, q41, q42, q43, q44, q45, q46, q47, q48, q49, q50, q51, q52, q53, q54, q58, q59, q61, q62, q56]⟩
/- slices.medianCmpFunc[int] -/
noncomputable def cf90 : HF := ⟨
(.seq (.reg [q12] fun c r s K => K [I0] s)
 (.seq (.reg [q1, q2] fun c r s K => c n93 [(r q0), (r q1), (r q2), (r q4), (r q5)] s fun v0 s => xE n0 v0 c r s fun v1 s => xE n1 v0 c r s fun v2 s => K [v1, v2] s)
 (.seq (.reg [q2, q3] fun c r s K => c n93 [(r q0), (r q2), (r q3), (r q4), (r q5)] s fun v0 s => xE n0 v0 c r s fun v1 s => xE n1 v0 c r s fun v2 s => K [v1, v2] s)
 (.seq (.reg [q1, q2] fun c r s K => c n93 [(r q0), (r q1), (r q2), (r q4), (r q5)] s fun v0 s => xE n0 v0 c r s fun v1 s => xE n1 v0 c r s fun v2 s => K [v1, v2] s)
 (.seq (.reg [q12] fun c r s K => K [(r q2)] s)
 .ret))))), [(.tmp q12)], [q0, q1, q2, q3, q4, q5], [q14, q15, q16, q17, q18, q19, q13, q20, q21, q23, q24, q25, q26, q27, q28, q22, q29, q30, q32, q33, q34, q35, q36, q37, q31, q38, q39, q40]⟩
/- slices.order2CmpFunc[int] -/
noncomputable def cf93 : HF := ⟨
(.seq (.reg [q10, q11] fun c r s K => K [I0, I0] s)
 (.seq (.seq (.drw [q22] fun c r s K => (fun z m => ixs n1 (r q0) (r q2) fun v0 => dL z m n16 n14 s v0 fun v1 m s => ixs n1 (r q0) (r q1) fun v2 => dL z m (nat_lit 256) (nat_lit 224) s v2 fun v3 m s => dw3 m (nat_lit 512) (nat_lit 511) s (fun s q => h_op4_callV (.c (r q4)) [(.c v1), (.c v3)] c r s q) fun v4 m s => binK .lss v4 I0 fun v5 => K [v5] s) s.next mk0)
 (.cond (.t q22) (.seq (.reg [] fun c r s K => xC (r q3) c r s fun v0 s => ld s v0 fun v1 => binK .add v1 I1 fun v2 => xC (r q3) c r s fun v3 s => sto s n1 v3 v2 fun s => K [] s)
 (.seq (.reg [q10, q11] fun c r s K => K [(r q2), (r q1)] s)
 .ret))
 .skip))
 (.seq (.reg [q10, q11] fun c r s K => K [(r q1), (r q2)] s)
 .ret))), [(.tmp q10), (.tmp q11)], [q0, q1, q2, q3, q4], [q12, q13, q14, q15, q16, q17, q18, q19, q20, q21, q23, q24, q25, q26, q27, q28, q29, q30, q31]⟩
/- slices.medianAdjacentCmpFunc[int] -/
noncomputable def cf89 : HF := ⟨
(.seq (.reg [q8] fun c r s K => K [I0] s)
 (.seq (.reg [q8] fun c r s K => binK .sub (r q1) I1 fun v0 => binK .add (r q1) I1 fun v1 => c n90 [(r q0), v0, (r q1), v1, (r q2), (r q3)] s fun v2 s => K [v2] s)
 .ret)), [(.tmp q8)], [q0, q1, q2, q3], [q9, q10, q11, q12, q13, q14, q15, q16, q17]⟩
/- slices.breakPatternsCmpFunc[int] -/
noncomputable def cf73 : HF := ⟨
(.seq (.reg [q8] fun c r s K => binK .sub (r q2) (r q1) fun v0 => K [v0] s)
 (.seq (.reg [q17] fun c r s K => binK .geq (r q8) I8 fun v0 => K [v0] s)
 (.cond (.t q17) (.seq (.reg [q9] fun c r s K => cnv .u64 (r q8) fun v0 => alc s [zu] fun v1 s => sto s n1 v1 v0 fun s => K [v1] s)
 (.seq (.reg [q10] fun c r s K => c n87 [(r q8)] s fun v0 s => K [v0] s)
 (.seq (.reg [q11] fun c r s K => binK .quo (r q8) I4 fun v0 => binK .mul v0 I2 fun v1 => binK .add (r q1) v1 fun v2 => binK .sub v2 I1 fun v3 => K [v3] s)
 (.block n0 (.loop (.seq (.seq (.reg [q35] fun c r s K => binK .quo (r q8) I4 fun v0 => binK .mul v0 I2 fun v1 => binK .add (r q1) v1 fun v2 => binK .add v2 I1 fun v3 => binK .leq (r q11) v3 fun v4 => K [v4] s)
 (.cond (.t q35) .skip
 (.exit n0)))
 (.seq (.block n1 (.seq (.reg [q12] fun c r s K => c n88 [(r q9)] s fun v0 s => binK .sub (r q10) U1 fun v1 => binK .and v0 v1 fun v2 => cnv .i64 v2 fun v3 => K [v3] s)
 (.seq (.seq (.reg [q45] fun c r s K => binK .geq (r q12) (r q8) fun v0 => K [v0] s)
 (.cond (.t q45) (.reg [q12] fun c r s K => binK .sub (r q12) (r q8) fun v0 => K [v0] s)
 .skip))
 (.drw [] fun c r s K => (fun z m => binK .add (r q1) (r q12) fun v0 => binK .add (r q1) (r q12) fun v1 => ixs n1 (r q0) v1 fun v2 => dL z m (nat_lit 2048) (nat_lit 1984) s v2 fun v3 m s => ixs n1 (r q0) (r q11) fun v4 => dL z m (nat_lit 32768) (nat_lit 28672) s v4 fun v5 m s => ixs n1 (r q0) (r q11) fun v6 => dS z m (nat_lit 131072) (nat_lit 131011) s n1 v6 v3 fun _ m s => ixs n1 (r q0) v0 fun v8 => dS z m (nat_lit 524288) (nat_lit 524287) s n1 v8 v5 fun _ m s => K [] s) s.next mk0))))
 (.reg [q11] fun c r s K => binK .add (r q11) I1 fun v0 => K [v0] s))))))))
 .skip))), [], [q0, q1, q2, q3], [q13, q14, q15, q16, q18, q19, q20, q21, q22, q23, q24, q25, q26, q27, q28, q29, q30, q31, q32, q33, q34, q38, q39, q40, q41, q42, q43, q44, q46, q47, q48, q49, q50, q51, q52, q53, q54, q55, q56, q57, q58, q59, q60, q61, q62, q63, q64, q65, q66, q36, q37]⟩
/- (*slices.xorshift).Next -/
noncomputable def cf88 : HF := ⟨
(.seq (.reg [q2] fun c r s K => K [U0] s)
 (.seq (.drw [] fun c r s K => (fun z m => xC (r q0) c r s fun v0 s => dL z m n4 n3 s v0 fun v1 m s => xC (r q0) c r s fun v2 s => dL z m n32 n24 s v2 fun v3 m s => xS true v3 U13 c r s fun v4 s => binK .xor v1 v4 fun v5 => xC (r q0) c r s fun v6 s => dS z m (nat_lit 512) (nat_lit 511) s n1 v6 v5 fun _ m s => K [] s) s.next mk0)
 (.seq (.drw [] fun c r s K => (fun z m => xC (r q0) c r s fun v0 s => dL z m n4 n3 s v0 fun v1 m s => xC (r q0) c r s fun v2 s => dL z m n32 n24 s v2 fun v3 m s => xS false v3 U7 c r s fun v4 s => binK .xor v1 v4 fun v5 => xC (r q0) c r s fun v6 s => dS z m (nat_lit 512) (nat_lit 511) s n1 v6 v5 fun _ m s => K [] s) s.next mk0)
 (.seq (.drw [] fun c r s K => (fun z m => xC (r q0) c r s fun v0 s => dL z m n4 n3 s v0 fun v1 m s => xC (r q0) c r s fun v2 s => dL z m n32 n24 s v2 fun v3 m s => xS true v3 U17 c r s fun v4 s => binK .xor v1 v4 fun v5 => xC (r q0) c r s fun v6 s => dS z m (nat_lit 512) (nat_lit 511) s n1 v6 v5 fun _ m s => K [] s) s.next mk0)
 (.seq (.reg [q2] fun c r s K => xC (r q0) c r s fun v0 s => ld s v0 fun v1 => K [v1] s)
 .ret))))), [(.tmp q2)], [q0], [q3, q4, q5, q6, q7, q8, q9, q10, q11, q12, q13, q14, q15, q16, q17, q18, q19, q20, q21, q22, q23, q24, q25, q26, q27, q28, q29, q30, q31, q32]⟩
/- slices.nextPowerOfTwo -/
noncomputable def cf87 : HF := ⟨
(.seq (.reg [q2] fun c r s K => K [U0] s)
 (.seq (.reg [q2] fun c r s K => cnv .u64 (r q0) fun v0 => c n54 [v0] s fun v1 s => xS true U1 v1 c r s fun v2 s => K [v2] s)
 .ret)), [(.tmp q2)], [q0], [q3, q4, q5, q6]⟩
/- slices.heapSortCmpFunc[int] -/
noncomputable def cf72 : HF := ⟨
(.seq (.reg [q8] fun c r s K => K [(r q1)] s)
 (.seq (.reg [q9] fun c r s K => K [I0] s)
 (.seq (.reg [q10] fun c r s K => binK .sub (r q2) (r q1) fun v0 => K [v0] s)
 (.seq (.seq (.reg [q11] fun c r s K => binK .sub (r q10) I1 fun v0 => binK .quo v0 I2 fun v1 => K [v1] s)
 (.block n0 (.loop (.seq (.seq (.reg [q21] fun c r s K => binK .geq (r q11) I0 fun v0 => K [v0] s)
 (.cond (.t q21) .skip
 (.exit n0)))
 (.seq (.block n1 (.reg [] fun c r s K => c n86 [(r q0), (r q11), (r q10), (r q8), (r q3)] s fun v0 s => K [] s))
 (.reg [q11] fun c r s K => binK .sub (r q11) I1 fun v0 => K [v0] s))))))
 (.seq (.reg [q12] fun c r s K => binK .sub (r q10) I1 fun v0 => K [v0] s)
 (.block n2 (.loop (.seq (.seq (.reg [q33] fun c r s K => binK .geq (r q12) I0 fun v0 => K [v0] s)
 (.cond (.t q33) .skip
 (.exit n2)))
 (.seq (.block n3 (.seq (.drw [] fun c r s K => (fun z m => binK .add (r q8) (r q12) fun v0 => binK .add (r q8) (r q12) fun v1 => ixs n1 (r q0) v1 fun v2 => dL z m (nat_lit 2048) (nat_lit 1984) s v2 fun v3 m s => ixs n1 (r q0) (r q8) fun v4 => dL z m (nat_lit 32768) (nat_lit 28672) s v4 fun v5 m s => ixs n1 (r q0) (r q8) fun v6 => dS z m (nat_lit 131072) (nat_lit 131011) s n1 v6 v3 fun _ m s => ixs n1 (r q0) v0 fun v8 => dS z m (nat_lit 524288) (nat_lit 524287) s n1 v8 v5 fun _ m s => K [] s) s.next mk0)
 (.reg [] fun c r s K => c n86 [(r q0), (r q9), (r q12), (r q8), (r q3)] s fun v0 s => K [] s)))
 (.reg [q12] fun c r s K => binK .sub (r q12) I1 fun v0 => K [v0] s)))))))))), [], [q0, q1, q2, q3], [q13, q14, q15, q16, q17, q18, q19, q20, q24, q25, q26, q27, q28, q29, q22, q23, q30, q31, q32, q36, q37, q38, q39, q40, q41, q42, q43, q44, q45, q46, q47, q48, q49, q50, q51, q52, q53, q54, q55, q56, q57, q58, q59, q34, q35]⟩
/- slices.siftDownCmpFunc[int] -/
noncomputable def cf86 : HF := ⟨
(.seq (.reg [q10] fun c r s K => K [(r q1)] s)
 (.block n0 (.loop (.block n1 (.seq (.reg [q11] fun c r s K => binK .mul I2 (r q10) fun v0 => binK .add v0 I1 fun v1 => K [v1] s)
 (.seq (.seq (.reg [q18] fun c r s K => binK .geq (r q11) (r q2) fun v0 => K [v0] s)
 (.cond (.t q18) (.exit n0)
 .skip))
 (.seq (.seq (.drw [q40] fun c r s K => (fun z m => binK .add (r q11) I1 fun v0 => binK .lss v0 (r q2) fun v1 => jnD true v1 (fun jj => jj (r q4) m s) m s fun v2 m s => jnD true v1 (fun jj => jj (r q0) m s) m s fun v3 m s => jnD true v1 (fun jj => jj (r q3) m s) m s fun v4 m s => jnD true v1 (fun jj => jj (r q11) m s) m s fun v5 m s => jnD true v1 (fun jj => binK .add v4 v5 fun v => jj v m s) m s fun v6 m s => jnD true v1 (fun jj => ixs n1 v3 v6 fun v => jj v m s) m s fun v7 m s => jnD true v1 (fun jj => dL z m (nat_lit 2048) (nat_lit 2015) s v7 jj) m s fun v8 m s => jnD true v1 (fun jj => jj (r q0) m s) m s fun v9 m s => jnD true v1 (fun jj => jj (r q3) m s) m s fun v10 m s => jnD true v1 (fun jj => jj (r q11) m s) m s fun v11 m s => jnD true v1 (fun jj => binK .add v10 v11 fun v => jj v m s) m s fun v12 m s => jnD true v1 (fun jj => binK .add v12 I1 fun v => jj v m s) m s fun v13 m s => jnD true v1 (fun jj => ixs n1 v9 v13 fun v => jj v m s) m s fun v14 m s => jnD true v1 (fun jj => dL z m (nat_lit 262144) (nat_lit 258079) s v14 jj) m s fun v15 m s => jnD true v1 (fun jj => dw3 m (nat_lit 524288) (nat_lit 524287) s (fun s q => h_op4_callV (.c v2) [(.c v8), (.c v15)] c r s q) jj) m s fun v16 m s => jnD true v1 (fun jj => binK .lss v16 I0 fun v => jj v m s) m s fun v17 m s => pck v1 v17 ff fun v18 => K [v18] s) s.next mk0)
 (.cond (.t q40) (.reg [q11] fun c r s K => binK .add (r q11) I1 fun v0 => K [v0] s)
 .skip))
 (.seq (.seq (.drw [q58] fun c r s K => (fun z m => binK .add (r q3) (r q10) fun v0 => ixs n1 (r q0) v0 fun v1 => dL z m n64 n62 s v1 fun v2 m s => binK .add (r q3) (r q11) fun v3 => ixs n1 (r q0) v3 fun v4 => dL z m (nat_lit 4096) (nat_lit 3968) s v4 fun v5 m s => dw3 m (nat_lit 8192) (nat_lit 8191) s (fun s q => h_op4_callV (.c (r q4)) [(.c v2), (.c v5)] c r s q) fun v6 m s => binK .lss v6 I0 fun v7 => nott v7 fun v8 => K [v8] s) s.next mk0)
 (.cond (.t q58) .ret
 .skip))
 (.seq (.drw [] fun c r s K => (fun z m => binK .add (r q3) (r q10) fun v0 => binK .add (r q3) (r q11) fun v1 => binK .add (r q3) (r q11) fun v2 => ixs n1 (r q0) v2 fun v3 => dL z m (nat_lit 8192) (nat_lit 7936) s v3 fun v4 m s => binK .add (r q3) (r q10) fun v5 => ixs n1 (r q0) v5 fun v6 => dL z m (nat_lit 524288) (nat_lit 507904) s v6 fun v7 m s => ixs n1 (r q0) v0 fun v8 => dS z m (nat_lit 2097152) (nat_lit 2096911) s n1 v8 v4 fun _ m s => ixs n1 (r q0) v1 fun v10 => dS z m (nat_lit 8388608) (nat_lit 8388607) s n1 v10 v7 fun _ m s => K [] s) s.next mk0)
 (.reg [q10] fun c r s K => K [(r q11)] s)))))))))), [], [q0, q1, q2, q3, q4], [q12, q13, q14, q15, q16, q17, q19, q20, q21, q22, q23, q24, q25, q26, q27, q28, q29, q30, q31, q32, q33, q34, q35, q36, q37, q38, q39, q41, q42, q43, q44, q45, q46, q47, q48, q49, q50, q51, q52, q53, q54, q55, q56, q57, q59, q60, q61, q62, q63, q64, q65, q66, q67, q68, q69, q70, q71, q72, q73, q74, q75, q76, q77, q78, q79, q80, q81]⟩
/- slices.insertionSortCmpFunc[int] -/
noncomputable def cf71 : HF := ⟨
(.seq (.reg [q8] fun c r s K => binK .add (r q1) I1 fun v0 => K [v0] s)
 (.block n0 (.loop (.seq (.seq (.reg [q14] fun c r s K => binK .lss (r q8) (r q2) fun v0 => K [v0] s)
 (.cond (.t q14) .skip
 (.exit n0)))
 (.seq (.block n1 (.seq (.reg [q9] fun c r s K => K [(r q8)] s)
 (.block n2 (.loop (.seq (.seq (.drw [q34] fun c r s K => (fun z m => binK .gtr (r q9) (r q1) fun v0 => jnD true v0 (fun jj => jj (r q3) m s) m s fun v1 m s => jnD true v0 (fun jj => jj (r q0) m s) m s fun v2 m s => jnD true v0 (fun jj => jj (r q9) m s) m s fun v3 m s => jnD true v0 (fun jj => ixs n1 v2 v3 fun v => jj v m s) m s fun v4 m s => jnD true v0 (fun jj => dL z m (nat_lit 256) (nat_lit 239) s v4 jj) m s fun v5 m s => jnD true v0 (fun jj => jj (r q0) m s) m s fun v6 m s => jnD true v0 (fun jj => jj (r q9) m s) m s fun v7 m s => jnD true v0 (fun jj => binK .sub v7 I1 fun v => jj v m s) m s fun v8 m s => jnD true v0 (fun jj => ixs n1 v6 v8 fun v => jj v m s) m s fun v9 m s => jnD true v0 (fun jj => dL z m (nat_lit 8192) (nat_lit 7695) s v9 jj) m s fun v10 m s => jnD true v0 (fun jj => dw3 m (nat_lit 16384) (nat_lit 16383) s (fun s q => h_op4_callV (.c v1) [(.c v5), (.c v10)] c r s q) jj) m s fun v11 m s => jnD true v0 (fun jj => binK .lss v11 I0 fun v => jj v m s) m s fun v12 m s => pck v0 v12 ff fun v13 => K [v13] s) s.next mk0)
 (.cond (.t q34) .skip
 (.exit n2)))
 (.seq (.block n3 (.drw [] fun c r s K => (fun z m => binK .sub (r q9) I1 fun v0 => binK .sub (r q9) I1 fun v1 => ixs n1 (r q0) v1 fun v2 => dL z m (nat_lit 512) (nat_lit 480) s v2 fun v3 m s => ixs n1 (r q0) (r q9) fun v4 => dL z m (nat_lit 8192) (nat_lit 7168) s v4 fun v5 m s => ixs n1 (r q0) (r q9) fun v6 => dS z m (nat_lit 32768) (nat_lit 32739) s n1 v6 v3 fun _ m s => ixs n1 (r q0) v0 fun v8 => dS z m (nat_lit 131072) (nat_lit 131071) s n1 v8 v5 fun _ m s => K [] s) s.next mk0))
 (.reg [q9] fun c r s K => binK .sub (r q9) I1 fun v0 => K [v0] s)))))))
 (.reg [q8] fun c r s K => binK .add (r q8) I1 fun v0 => K [v0] s)))))), [], [q0, q1, q2, q3], [q10, q11, q12, q13, q17, q18, q19, q20, q21, q22, q23, q24, q25, q26, q27, q28, q29, q30, q31, q32, q33, q37, q38, q39, q40, q41, q42, q43, q44, q45, q46, q47, q48, q49, q50, q51, q52, q35, q36, q15, q16]⟩
/- math/bits.Len -/
noncomputable def cf54 : HF := ⟨
(.seq (.reg [q2] fun c r s K => K [I0] s)
 (.seq (.cond (.c (.sc (.bool false))) (.seq (.reg [q2] fun c r s K => cnv .u32 (r q0) fun v0 => c n79 [v0] s fun v1 s => K [v1] s)
 .ret)
 .skip)
 (.seq (.reg [q2] fun c r s K => c n80 [(r q0)] s fun v0 s => K [v0] s)
 .ret))), [(.tmp q2)], [q0], [q3, q4, q5, q6, q7]⟩
/- math/bits.Len64 -/
noncomputable def cf80 : HF := ⟨
(.seq (.reg [q2] fun c r s K => K [I0] s)
 (.seq (.seq (.reg [q4] fun c r s K => binK .geq (r q0) (u6 (nat_lit 4294967296)) fun v0 => K [v0] s)
 (.cond (.t q4) (.seq (.reg [q0] fun c r s K => xS false (r q0) U32 c r s fun v0 s => K [v0] s)
 (.reg [q2] fun c r s K => K [I32] s))
 .skip))
 (.seq (.seq (.reg [q8] fun c r s K => binK .geq (r q0) (u6 (nat_lit 65536)) fun v0 => K [v0] s)
 (.cond (.t q8) (.seq (.reg [q0] fun c r s K => xS false (r q0) U16 c r s fun v0 s => K [v0] s)
 (.reg [q2] fun c r s K => binK .add (r q2) I16 fun v0 => K [v0] s))
 .skip))
 (.seq (.seq (.reg [q14] fun c r s K => binK .geq (r q0) (u6 (nat_lit 256)) fun v0 => K [v0] s)
 (.cond (.t q14) (.seq (.reg [q0] fun c r s K => xS false (r q0) U8 c r s fun v0 s => K [v0] s)
 (.reg [q2] fun c r s K => binK .add (r q2) I8 fun v0 => K [v0] s))
 .skip))
 (.seq (.reg [q2] fun c r s K => cnv .u8 (r q0) fun v0 => h_op4_byteAt (.c (.sc (.lit (.string ⟨#[0, 1, 2, 2, 3, 3, 3, 3, 4, 4, 4, 4, 4, 4, 4, 4, 5, 5, 5, 5, 5, 5, 5, 5, 5, 5, 5, 5, 5, 5, 5, 5, 6, 6, 6, 6, 6, 6, 6, 6, 6, 6, 6, 6, 6, 6, 6, 6, 6, 6, 6, 6, 6, 6, 6, 6, 6, 6, 6, 6, 6, 6, 6, 6, 7, 7, 7, 7, 7, 7, 7, 7, 7, 7, 7, 7, 7, 7, 7, 7, 7, 7, 7, 7, 7, 7, 7, 7, 7, 7, 7, 7, 7, 7, 7, 7, 7, 7, 7, 7, 7, 7, 7, 7, 7, 7, 7, 7, 7, 7, 7, 7, 7, 7, 7, 7, 7, 7, 7, 7, 7, 7, 7, 7, 7, 7, 7, 7, 8, 8, 8, 8, 8, 8, 8, 8, 8, 8, 8, 8, 8, 8, 8, 8, 8, 8, 8, 8, 8, 8, 8, 8, 8, 8, 8, 8, 8, 8, 8, 8, 8, 8, 8, 8, 8, 8, 8, 8, 8, 8, 8, 8, 8, 8, 8, 8, 8, 8, 8, 8, 8, 8, 8, 8, 8, 8, 8, 8, 8, 8, 8, 8, 8, 8, 8, 8, 8, 8, 8, 8, 8, 8, 8, 8, 8, 8, 8, 8, 8, 8, 8, 8, 8, 8, 8, 8, 8, 8, 8, 8, 8, 8, 8, 8, 8, 8, 8, 8, 8, 8, 8, 8, 8, 8, 8, 8, 8, 8, 8, 8, 8, 8, 8, 8, 8, 8, 8, 8, 8, 8, 8, 8, 8, 8, 8, 8]⟩)))) (.c v0) c r s fun v1 s => cnv .i64 v1 fun v2 => binK .add (r q2) v2 fun v3 => K [v3] s)
 .ret))))), [(.tmp q2)], [q0], [q3, q5, q6, q7, q9, q10, q11, q12, q13, q15, q16, q17, q18, q19, q20, q21, q22, q23, q24]⟩
end Go.Proofs.YtphindkhkcncdaaDoor.Ev
