/- Compiled functions of the translated program, and that each is what the compiler makes of it; no conditions. -/
import Derived.Test.YticfndhcbjcklaaDoorEvC
import Derived.KernelRfl
namespace Go.Proofs.YticfndhcbjcklaaDoor.Ev
set_option maxRecDepth 100000
set_option linter.unusedVariables false
/- attestor/attestorlaw32.AggregateInputs -/
noncomputable def cf3 : HF := ⟨
(.seq (.reg [q6] fun c r s K => K [ff] s)
 (.seq (.reg [q0, q1, q2] fun c r s K => c n6 [(r q0), I24] s fun v0 s => c n7 [(r q1)] s fun v1 s => c n7 [(r q2)] s fun v2 s => K [v0, v1, v2] s)
 (.seq (.reg [q7, q8, q9] fun c r s K => c n8 [(r q0), (r q1), (r q2)] s fun v0 s => xE n0 v0 c r s fun v1 s => xE n1 v0 c r s fun v2 s => xE n2 v0 c r s fun v3 s => K [v1, v2, v3] s)
 (.seq (.reg [q10, q11, q12] fun c r s K => c n9 [(r q0), (r q1), (r q2)] s fun v0 s => xE n0 v0 c r s fun v1 s => xE n1 v0 c r s fun v2 s => xE n2 v0 c r s fun v3 s => K [v1, v2, v3] s)
 (.seq (.reg [q6] fun c r s K => binK .eql (r q9) (r q12) fun v0 => mt v0 (r q7) s fun v1 s => mt v0 (r q10) s fun v2 s => jn true v0 (fun j => c n10 [v1, v2] s j) s fun v3 s => pck v0 v3 ff fun v4 => mt v4 (r q8) s fun v5 s => mt v4 (r q11) s fun v6 s => jn true v4 (fun j => c n10 [v5, v6] s j) s fun v7 s => pck v4 v7 ff fun v8 => jn true v8 (fun j => c n11 [] s j) s fun v9 s => pck v8 v9 ff fun v10 => K [v10] s)
 .ret))))), [(.tmp q6)], [q0, q1, q2], [q13, q14, q15, q16, q17, q18, q20, q21, q22, q23, q19, q24, q25, q26, q28, q29, q30, q31, q27, q32, q33, q34, q35, q36, q37, q38, q39, q40, q41, q42, q43, q44, q45, q46, q47, q48, q49, q50]⟩
/- attestor/attestorlaw32.works -/
noncomputable def cf11 : HF := ⟨
(.seq (.reg [q0] fun c r s K => K [ff] s)
 (.seq (.reg [q1] fun c r s K => c n28 [I3] s fun v0 s => c n28 [I3] s fun v1 s => h_op3_buildS n2 n5 [zi, zi, zi, zi, zn, zi, zi, zi, zi, zn] [(n0, n5, (.c v0)), (n5, n5, (.c v1))] c r s fun v2 s => K [v2] s)
 (.seq (.reg [q2, q3] fun c r s K => c n12 [(r q1)] s fun v0 s => xE n0 v0 c r s fun v1 s => xE n1 v0 c r s fun v2 s => alc s [zi, zi, zi, zi, zn] fun v3 s => sto s n5 v3 v1 fun s => K [v3, v2] s)
 (.seq (.reg [q4, q5, q6] fun c r s K => h_op3_buildS n1 n1 [zu] [(n0, n1, (.c U5))] c r s fun v0 s => h_op3_buildS n1 n1 [zu] [(n0, n1, (.c U6))] c r s fun v1 s => h_op3_buildS n2 n1 [zn, zn] [(n0, n1, (.c v0)), (n1, n1, (.c v1))] c r s fun v2 s => h_op3_buildS n1 n1 [zu] [(n0, n1, (.c U7))] c r s fun v3 s => h_op3_buildS n1 n1 [zu] [(n0, n1, (.c U8))] c r s fun v4 s => h_op3_buildS n2 n1 [zn, zn] [(n0, n1, (.c v3)), (n1, n1, (.c v4))] c r s fun v5 s => c n8 [(r q1), v2, v5] s fun v6 s => xE n0 v6 c r s fun v7 s => xE n1 v6 c r s fun v8 s => xE n2 v6 c r s fun v9 s => K [v7, v8, v9] s)
 (.seq (.reg [q0] fun c r s K => binK .eql (r q3) I0 fun v0 => jt v0 (fad n1 (r q2)) s fun v1 s => jt v0 (ld s v1) s fun v2 s => jt v0 (binK .eql v2 I6) s fun v3 s => pck v0 v3 ff fun v4 => jt v4 (fad n2 (r q2)) s fun v5 s => jt v4 (ld s v5) s fun v6 s => jt v4 (binK .eql v6 I2) s fun v7 s => pck v4 v7 ff fun v8 => jt v8 (fad n3 (r q2)) s fun v9 s => jt v8 (ld s v9) s fun v10 s => jt v8 (binK .eql v10 I2) s fun v11 s => pck v8 v11 ff fun v12 => jt v12 (fad n4 (r q2)) s fun v13 s => jt v12 (ld s v13) s fun v14 s => jt v12 (lnS v14) s fun v15 s => jt v12 (binK .eql v15 I2) s fun v16 s => pck v12 v16 ff fun v17 => jt v17 (fad n4 (r q2)) s fun v18 s => jt v17 (ld s v18) s fun v19 s => jt v17 (ixs n11 v19 I0) s fun v20 s => jt v17 (fad n1 v20) s fun v21 s => jt v17 (lN s n4 v21) s fun v22 s => jn true v17 (fun j => h_op3_build [zi, zi, zi, zi] [(n0, n1, (.c I0)), (n1, n1, (.c I2)), (n2, n1, (.c I4)), (n3, n1, (.c (.sc (.int .i64 (.negSucc n0)))))] c r s j) s fun v23 s => jn true v17 (fun j => h_op4_eqv (.flat [n1, n1, n1, n1]) false (.c v22) (.c v23) c r s j) s fun v24 s => pck v17 v24 ff fun v25 => jt v25 (fad n4 (r q2)) s fun v26 s => jt v25 (ld s v26) s fun v27 s => jt v25 (ixs n11 v27 I1) s fun v28 s => jt v25 (fad n1 v28) s fun v29 s => jt v25 (lN s n4 v29) s fun v30 s => jn true v25 (fun j => h_op3_build [zi, zi, zi, zi] [(n0, n1, (.c I1)), (n1, n1, (.c I3)), (n2, n1, (.c I5)), (n3, n1, (.c (.sc (.int .i64 (.negSucc n0)))))] c r s j) s fun v31 s => jn true v25 (fun j => h_op4_eqv (.flat [n1, n1, n1, n1]) false (.c v30) (.c v31) c r s j) s fun v32 s => pck v25 v32 ff fun v33 => mt v33 (r q6) s fun v34 s => jt v33 (binK .eql v34 I0) s fun v35 s => pck v33 v35 ff fun v36 => mt v36 (r q4) s fun v37 s => jn true v36 (fun j => h_op3_buildS n2 n1 [zu, zu] [(n0, n1, (.c U5)), (n1, n1, (.c U6))] c r s j) s fun v38 s => jn true v36 (fun j => c n21 [v37, v38] s j) s fun v39 s => pck v36 v39 ff fun v40 => mt v40 (r q5) s fun v41 s => jn true v40 (fun j => h_op3_buildS n2 n1 [zu, zu] [(n0, n1, (.c U7)), (n1, n1, (.c U8))] c r s j) s fun v42 s => jn true v40 (fun j => c n21 [v41, v42] s j) s fun v43 s => pck v40 v43 ff fun v44 => K [v44] s)
 .ret))))), [(.tmp q0)], [], [q7, q8, q9, q11, q12, q10, q13, q14, q16, q17, q18, q19, q20, q21, q22, q23, q15, q24, q25, q26, q27, q28, q29, q30, q31, q32, q33, q34, q35, q36, q37, q38, q39, q40, q41, q42, q43, q44, q45, q46, q47, q48, q49, q50, q51, q52, q53, q54, q55, q56, q57, q58, q59, q60, q61, q62, q63, q64, q65, q66, q67, q68, q69, q70, q71, q72, q73, q74, q75, q76, q77, q78, q79, q80, q81]⟩
/- attestor/attestorlaw32.same -/
noncomputable def cf21 : HF := ⟨
(.seq (.reg [q4] fun c r s K => K [ff] s)
 (.seq (.seq (.reg [q10] fun c r s K => lnS (r q0) fun v0 => lnS (r q1) fun v1 => binK .neq v0 v1 fun v2 => K [v2] s)
 (.cond (.t q10) (.seq (.reg [q4] fun c r s K => K [ff] s)
 .ret)
 .skip))
 (.seq (.seq (.reg [q5] fun c r s K => K [I0] s)
 (.block n0 (.loop (.seq (.seq (.reg [q14] fun c r s K => lnS (r q0) fun v0 => binK .lss (r q5) v0 fun v1 => K [v1] s)
 (.cond (.t q14) .skip
 (.exit n0)))
 (.seq (.block n1 (.seq (.drw [q25] fun c r s K => (fun z m => ixs n1 (r q0) (r q5) fun v0 => dL z m n8 n7 s v0 fun v1 m s => ixs n1 (r q1) (r q5) fun v2 => dL z m n128 n112 s v2 fun v3 m s => binK .neq v1 v3 fun v4 => K [v4] s) s.next mk0)
 (.cond (.t q25) (.seq (.reg [q4] fun c r s K => K [ff] s)
 .ret)
 .skip)))
 (.reg [q5] fun c r s K => binK .add (r q5) I1 fun v0 => K [v0] s))))))
 (.seq (.reg [q4] fun c r s K => K [tt] s)
 .ret)))), [(.tmp q4)], [q0, q1], [q6, q7, q8, q9, q11, q12, q13, q17, q18, q19, q20, q21, q22, q23, q24, q15, q16]⟩
/- attestor/aggregate.Join -/
noncomputable def cf12 : HF := ⟨
(.seq (.reg [q2, q3] fun c r s K => alc s [zi, zi, zi, zi, zn] fun v0 s => K [v0, I0] s)
 (.seq (.block n0 (.seq (.reg [q16] fun c r s K => lnS (r q0) fun v0 => binK .eql v0 I0 fun v1 => mf v1 (r q0) s fun v2 s => jn false v1 (fun j => c n22 [v2] s j) s fun v3 s => jf v1 (nott v3) s fun v4 s => pck v1 tt v4 fun v5 => K [v5] s)
 (.cond (.t q16) (.seq (.reg [q3] fun c r s K => h_op3_build [zi, zi, zi, zi, zn] [] c r s fun v0 s => sto s n5 (r q2) v0 fun s => K [I1] s)
 .ret)
 (.seq (.reg [q26] fun c r s K => c n29 [(r q0)] s fun v0 s => nott v0 fun v1 => K [v1] s)
 (.cond (.t q26) (.seq (.reg [q3] fun c r s K => h_op3_build [zi, zi, zi, zi, zn] [] c r s fun v0 s => sto s n5 (r q2) v0 fun s => K [I9] s)
 .ret)
 .skip)))))
 (.seq (.reg [q4, q5] fun c r s K => c n30 [(r q0)] s fun v0 s => xE n0 v0 c r s fun v1 s => xE n1 v0 c r s fun v2 s => alc s [zi, zi, zi, zi, zn] fun v3 s => sto s n5 v3 v1 fun s => K [v3, v2] s)
 (.seq (.reg [] fun c r s K => xM n11 n88 [zb, zi, zi, zi, zi, zu, zu, zu, zu, zu, zi] I0 (r q5) c r s fun v0 s => fad n4 (r q4) fun v1 => sto s n1 v1 v0 fun s => K [] s)
 (.seq (.drw [q6, q7, q8] fun c r s K => (fun z m => fad n2 (r q4) fun v0 => dL z m n2 n1 s v0 fun v1 m s => fad n2 (r q4) fun v2 => dL z m n8 n4 s v2 fun v3 m s => fad n3 (r q4) fun v4 => dL z m n32 n16 s v4 fun v5 m s => binK .add v3 v5 fun v6 => dw1 m n128 (fun q => alc s [zi] q) fun v7 m s => dw1 m (nat_lit 256) (fun q => alc s [zi] q) fun v8 m s => dw1 m (nat_lit 512) (fun q => alc s [zi] q) fun v9 m s => dS z m (nat_lit 1024) (nat_lit 896) s n1 v7 I0 fun _ m s => dS z m (nat_lit 2048) (nat_lit 1923) s n1 v8 v1 fun _ m s => dS z m (nat_lit 4096) (nat_lit 4095) s n1 v9 v6 fun _ m s => K [v7, v8, v9] s) s.next mk0)
 (.seq (.seq (.reg [q46, q47, q48] fun c r s K => lnS (r q0) fun v0 => K [(r q0), v0, I0] s)
 (.block n1 (.loop (.seq (.reg [q49] fun c r s K => binK .lss (r q48) (r q47) fun v0 => K [v0] s)
 (.seq (.cond (.t q49) .skip
 (.exit n1))
 (.seq (.block n2 (.seq (.reg [q10] fun c r s K => ixs n5 (r q46) (r q48) fun v0 => lN s n5 v0 fun v1 => alc s [zi, zi, zi, zi, zn] fun v2 s => sto s n5 v2 v1 fun s => K [v2] s)
 (.seq (.reg [q11] fun c r s K => h_op4_makeFunc n31 [(.c (r q10)), (.c (r q6)), (.c (r q7)), (.c (r q8))] c r s fun v0 s => K [v0] s)
 (.seq (.seq (.reg [q54, q55, q56] fun c r s K => fad n4 (r q10) fun v0 => ld s v0 fun v1 => lnS v1 fun v2 => K [v1, v2, I0] s)
 (.block n3 (.loop (.seq (.reg [q57] fun c r s K => binK .lss (r q56) (r q55) fun v0 => K [v0] s)
 (.seq (.cond (.t q57) .skip
 (.exit n3))
 (.seq (.block n4 (.seq (.reg [q13] fun c r s K => ixs n11 (r q54) (r q56) fun v0 => lN s n11 v0 fun v1 => alc s [zb, zi, zi, zi, zi, zu, zu, zu, zu, zu, zi] fun v2 s => sto s n11 v2 v1 fun s => K [v2] s)
 (.seq (.seq (.reg [q61, q62] fun c r s K => fad n1 (r q13) fun v0 => lN s n4 v0 fun v1 => K [v1, I0] s)
 (.block n5 (.loop (.seq (.reg [q63] fun c r s K => binK .lss (r q62) I4 fun v0 => K [v0] s)
 (.seq (.cond (.t q63) .skip
 (.exit n5))
 (.seq (.block n6 (.seq (.reg [q14, q15] fun c r s K => h_op2_idxV n4 n1 false (.c (r q61)) (.c (r q62)) c r s fun v0 s => K [(r q62), v0] s)
 (.reg [] fun c r s K => h_op4_callV (.c (r q11)) [(.c (r q15))] c r s fun v0 s => fad n1 (r q13) fun v1 => ixA n4 n1 v1 (r q14) fun v2 => sto s n1 v2 v0 fun s => K [] s)))
 (.reg [q62] fun c r s K => binK .add (r q62) I1 fun v0 => K [v0] s)))))))
 (.reg [] fun c r s K => fad n4 (r q4) fun v0 => ld s v0 fun v1 => lN s n11 (r q13) fun v2 => h_op3_buildS n1 n11 [zb, zi, zi, zi, zi, zu, zu, zu, zu, zu, zi] [(n0, n11, (.c v2))] c r s fun v3 s => xA n11 n88 v1 v3 c r s fun v4 s => fad n4 (r q4) fun v5 => sto s n1 v5 v4 fun s => K [] s))))
 (.reg [q56] fun c r s K => binK .add (r q56) I1 fun v0 => K [v0] s)))))))
 (.drw [] fun c r s K => (fun z m => dL z m n1 n0 s (r q6) fun v0 m s => fad n2 (r q10) fun v1 => dL z m n4 n2 s v1 fun v2 m s => binK .add v0 v2 fun v3 => dL z m n16 n0 s (r q7) fun v4 m s => fad n3 (r q10) fun v5 => dL z m n64 n32 s v5 fun v6 m s => binK .add v4 v6 fun v7 => dL z m (nat_lit 256) n0 s (r q8) fun v8 m s => fad n1 (r q10) fun v9 => dL z m (nat_lit 1024) (nat_lit 512) s v9 fun v10 m s => binK .add v8 v10 fun v11 => fad n2 (r q10) fun v12 => dL z m (nat_lit 8192) (nat_lit 4096) s v12 fun v13 m s => binK .sub v11 v13 fun v14 => fad n3 (r q10) fun v15 => dL z m (nat_lit 65536) (nat_lit 32768) s v15 fun v16 m s => binK .sub v14 v16 fun v17 => dS z m (nat_lit 262144) n15 s n1 (r q6) v3 fun _ m s => dS z m (nat_lit 524288) (nat_lit 262399) s n1 (r q7) v7 fun _ m s => dS z m (nat_lit 1048576) (nat_lit 1048575) s n1 (r q8) v17 fun _ m s => K [] s) s.next mk0)))))
 (.reg [q48] fun c r s K => binK .add (r q48) I1 fun v0 => K [v0] s)))))))
 (.seq (.reg [q3] fun c r s K => lN s n5 (r q4) fun v0 => sto s n5 (r q2) v0 fun s => K [I0] s)
 .ret))))))), [(.cellN n5 q2), (.tmp q3)], [q0], [q17, q18, q19, q20, q21, q22, q23, q24, q25, q27, q28, q29, q30, q32, q33, q31, q34, q35, q36, q37, q38, q39, q40, q41, q42, q43, q44, q45, q50, q51, q52, q53, q58, q59, q60, q64, q65, q66, q67, q68, q69, q70, q71, q72, q73, q74, q75, q76, q77, q78, q79, q80, q81, q82, q83, q84, q85, q86, q87, q88, q89, q90, q91, q92, q93, q94, q95, q96, q97, q98, q99]⟩
/- attestor/aggregate.Join$1 -/
noncomputable def cf31 : HF := ⟨
(.seq (.reg [q6] fun c r s K => K [I0] s)
 (.seq (.reg [q7] fun c r s K => fad n2 (r q1) fun v0 => ld s v0 fun v1 => fad n3 (r q1) fun v2 => ld s v2 fun v3 => binK .add v1 v3 fun v4 => K [v4] s)
 (.block n0 (.seq (.reg [q18] fun c r s K => binK .lss (r q0) I0 fun v0 => K [v0] s)
 (.cond (.t q18) (.seq (.reg [q6] fun c r s K => (fun v0 => K [v0] s) (.sc (.int .i64 (.negSucc n0))))
 .ret)
 (.seq (.reg [q21] fun c r s K => fad n2 (r q1) fun v0 => ld s v0 fun v1 => binK .lss (r q0) v1 fun v2 => K [v2] s)
 (.cond (.t q21) (.seq (.reg [q6] fun c r s K => ld s (r q2) fun v0 => binK .add v0 (r q0) fun v1 => K [v1] s)
 .ret)
 (.seq (.reg [q29] fun c r s K => binK .lss (r q0) (r q7) fun v0 => K [v0] s)
 (.cond (.t q29) (.seq (.reg [q6] fun c r s K => ld s (r q3) fun v0 => binK .add v0 (r q0) fun v1 => fad n2 (r q1) fun v2 => ld s v2 fun v3 => binK .sub v1 v3 fun v4 => K [v4] s)
 .ret)
 (.seq (.reg [q6] fun c r s K => ld s (r q4) fun v0 => binK .add v0 (r q0) fun v1 => binK .sub v1 (r q7) fun v2 => K [v2] s)
 .ret)))))))))), [(.tmp q6)], [q0, q1, q2, q3, q4], [q8, q9, q10, q11, q12, q19, q20, q22, q23, q24, q25, q26, q27, q28, q30, q31, q32, q33, q34, q35, q36, q37, q38, q13, q14, q15, q16, q17]⟩
/- attestor/aggregate.sums -/
noncomputable def cf30 : HF := ⟨
(.seq (.reg [q2, q3] fun c r s K => alc s [zi, zi, zi, zi, zn] fun v0 s => K [v0, I0] s)
 (.seq (.reg [q4, q5] fun c r s K => h_op3_build [zi, zi, zi, zi, zn] [] c r s fun v0 s => alc s [zi, zi, zi, zi, zn] fun v1 s => sto s n5 v1 v0 fun s => K [v1, I0] s)
 (.seq (.seq (.reg [q9, q10, q11] fun c r s K => lnS (r q0) fun v0 => K [(r q0), v0, I0] s)
 (.block n0 (.loop (.seq (.reg [q12] fun c r s K => binK .lss (r q11) (r q10) fun v0 => K [v0] s)
 (.seq (.cond (.t q12) .skip
 (.exit n0))
 (.seq (.block n1 (.seq (.reg [q7] fun c r s K => ixs n5 (r q9) (r q11) fun v0 => lN s n5 v0 fun v1 => alc s [zi, zi, zi, zi, zn] fun v2 s => sto s n5 v2 v1 fun s => K [v2] s)
 (.seq (.reg [] fun c r s K => fad n0 (r q7) fun v0 => ld s v0 fun v1 => fad n0 (r q4) fun v2 => sto s n1 v2 v1 fun s => K [] s)
 (.seq (.reg [] fun c r s K => fad n2 (r q4) fun v0 => ld s v0 fun v1 => fad n2 (r q7) fun v2 => ld s v2 fun v3 => binK .add v1 v3 fun v4 => fad n2 (r q4) fun v5 => sto s n1 v5 v4 fun s => K [] s)
 (.seq (.reg [] fun c r s K => fad n3 (r q4) fun v0 => ld s v0 fun v1 => fad n3 (r q7) fun v2 => ld s v2 fun v3 => binK .add v1 v3 fun v4 => fad n3 (r q4) fun v5 => sto s n1 v5 v4 fun s => K [] s)
 (.seq (.reg [] fun c r s K => fad n1 (r q4) fun v0 => ld s v0 fun v1 => fad n1 (r q7) fun v2 => ld s v2 fun v3 => binK .add v1 v3 fun v4 => fad n1 (r q4) fun v5 => sto s n1 v5 v4 fun s => K [] s)
 (.reg [q5] fun c r s K => fad n4 (r q7) fun v0 => ld s v0 fun v1 => lnS v1 fun v2 => binK .add (r q5) v2 fun v3 => K [v3] s)))))))
 (.reg [q11] fun c r s K => binK .add (r q11) I1 fun v0 => K [v0] s)))))))
 (.seq (.reg [q3] fun c r s K => lN s n5 (r q4) fun v0 => sto s n5 (r q2) v0 fun s => K [(r q5)] s)
 .ret)))), [(.cellN n5 q2), (.tmp q3)], [q0], [q8, q13, q14, q15, q16, q17, q18, q19, q20, q21, q22, q23, q24, q25, q26, q27, q28, q29, q30, q31, q32, q33, q34, q35, q36, q37, q38, q39, q40, q41, q42, q43]⟩
/- attestor/aggregate.room -/
noncomputable def cf29 : HF := ⟨
(.seq (.reg [q2] fun c r s K => K [ff] s)
 (.seq (.reg [q3, q4] fun c r s K => c n30 [(r q0)] s fun v0 s => xE n0 v0 c r s fun v1 s => xE n1 v0 c r s fun v2 s => alc s [zi, zi, zi, zi, zn] fun v3 s => sto s n5 v3 v1 fun s => K [v3, v2] s)
 (.seq (.reg [q2] fun c r s K => fad n2 (r q3) fun v0 => ld s v0 fun v1 => binK .leq v1 I16 fun v2 => jt v2 (fad n3 (r q3)) s fun v3 s => jt v2 (ld s v3) s fun v4 s => jt v2 (binK .leq v4 (i6 (nat_lit 20000))) s fun v5 s => pck v2 v5 ff fun v6 => jt v6 (fad n1 (r q3)) s fun v7 s => jt v6 (ld s v7) s fun v8 s => jt v6 (binK .leq v8 (i6 (nat_lit 40000))) s fun v9 s => pck v6 v9 ff fun v10 => mt v10 (r q4) s fun v11 s => jt v10 (binK .leq v11 (i6 (nat_lit 8000))) s fun v12 s => pck v10 v12 ff fun v13 => K [v13] s)
 .ret))), [(.tmp q2)], [q0], [q6, q7, q5, q8, q9, q10, q11, q12, q13, q14, q15, q16, q17, q18, q19, q20, q21, q22, q23, q24, q25, q26]⟩
/- attestor/aggregate.valid -/
noncomputable def cf22 : HF := ⟨
(.seq (.reg [q2] fun c r s K => K [ff] s)
 (.seq (.seq (.reg [q5, q6, q7] fun c r s K => lnS (r q0) fun v0 => K [(r q0), v0, I0] s)
 (.block n0 (.loop (.seq (.reg [q8] fun c r s K => binK .lss (r q7) (r q6) fun v0 => K [v0] s)
 (.seq (.cond (.t q8) .skip
 (.exit n0))
 (.seq (.block n1 (.seq (.reg [q4] fun c r s K => ixs n5 (r q5) (r q7) fun v0 => lN s n5 v0 fun v1 => alc s [zi, zi, zi, zi, zn] fun v2 s => sto s n5 v2 v1 fun s => K [v2] s)
 (.seq (.drw [q22] fun c r s K => (fun z m => dN z m n1 n0 s n5 (r q4) fun v0 m s => dw3 m n2 n1 s (fun s q => c n18 [v0] s q) fun v1 m s => nott v1 fun v2 => jnD false v2 (fun jj => fad n0 (r q4) fun v => jj v m s) m s fun v3 m s => jnD false v2 (fun jj => dL z m n32 n31 s v3 jj) m s fun v4 m s => jnD false v2 (fun jj => jj (r q0) m s) m s fun v5 m s => jnD false v2 (fun jj => ixs n5 v5 I0 fun v => jj v m s) m s fun v6 m s => jnD false v2 (fun jj => fad n0 v6 fun v => jj v m s) m s fun v7 m s => jnD false v2 (fun jj => dL z m (nat_lit 512) (nat_lit 463) s v7 jj) m s fun v8 m s => jnD false v2 (fun jj => binK .neq v4 v8 fun v => jj v m s) m s fun v9 m s => pck v2 tt v9 fun v10 => K [v10] s) s.next mk0)
 (.cond (.t q22) (.seq (.reg [q2] fun c r s K => K [ff] s)
 .ret)
 .skip))))
 (.reg [q7] fun c r s K => binK .add (r q7) I1 fun v0 => K [v0] s)))))))
 (.seq (.reg [q2] fun c r s K => K [tt] s)
 .ret))), [(.tmp q2)], [q0], [q9, q10, q11, q12, q13, q14, q15, q16, q17, q18, q19, q20, q21, q23]⟩
/- attestor/gates.Valid -/
noncomputable def cf18 : HF := ⟨
(.seq (.reg [q1, q2] fun c r s K => bxx s (r q0) fun v0 s => K [v0, ff] s)
 (.seq (.reg [q4] fun c r s K => lN s n5 (r q1) fun v0 => c n34 [v0] s fun v1 s => xE n0 v1 c r s fun v2 s => xE n1 v1 c r s fun v3 s => K [v3] s)
 (.seq (.reg [q2] fun c r s K => K [(r q4)] s)
 .ret))), [(.tmp q2)], [q0], [q6, q7, q5, q8, q9, q3, q10]⟩
/- attestor/gates.depths -/
noncomputable def cf34 : HF := ⟨
(.seq (.reg [q1, q2, q3] fun c r s K => bxx s (r q0) fun v0 s => K [v0, (.sc zn), ff] s)
 (.seq (.seq (.reg [q37] fun c r s K => fad n0 (r q1) fun v0 => ld s v0 fun v1 => c n46 [v1] s fun v2 s => nott v2 fun v3 => jf v3 (fad n2 (r q1)) s fun v4 s => jf v3 (ld s v4) s fun v5 s => jf v3 (binK .lss v5 I0) s fun v6 s => pck v3 tt v6 fun v7 => jf v7 (fad n2 (r q1)) s fun v8 s => jf v7 (ld s v8) s fun v9 s => jf v7 (binK .gtr v9 I16) s fun v10 s => pck v7 tt v10 fun v11 => jf v11 (fad n3 (r q1)) s fun v12 s => jf v11 (ld s v12) s fun v13 s => jf v11 (binK .lss v13 I0) s fun v14 s => pck v11 tt v14 fun v15 => jf v15 (fad n3 (r q1)) s fun v16 s => jf v15 (ld s v16) s fun v17 s => jf v15 (binK .gtr v17 (i6 (nat_lit 20000))) s fun v18 s => pck v15 tt v18 fun v19 => K [v19] s)
 (.cond (.t q37) (.seq (.reg [q2, q3] fun c r s K => K [(.sc zn), ff] s)
 .ret)
 .skip))
 (.seq (.seq (.reg [q56] fun c r s K => fad n1 (r q1) fun v0 => ld s v0 fun v1 => fad n2 (r q1) fun v2 => ld s v2 fun v3 => fad n3 (r q1) fun v4 => ld s v4 fun v5 => binK .add v3 v5 fun v6 => binK .lss v1 v6 fun v7 => jf v7 (fad n1 (r q1)) s fun v8 s => jf v7 (ld s v8) s fun v9 s => jf v7 (binK .gtr v9 (i6 (nat_lit 40000))) s fun v10 s => pck v7 tt v10 fun v11 => jf v11 (fad n4 (r q1)) s fun v12 s => jf v11 (ld s v12) s fun v13 s => jf v11 (lnS v13) s fun v14 s => jf v11 (binK .gtr v14 (i6 (nat_lit 8000))) s fun v15 s => pck v11 tt v15 fun v16 => K [v16] s)
 (.cond (.t q56) (.seq (.reg [q2, q3] fun c r s K => K [(.sc zn), ff] s)
 .ret)
 .skip))
 (.seq (.reg [q4] fun c r s K => h_op3_buildS n1 n1 [zi] [(n0, n1, (.c (.sc (.int .i64 (.negSucc n0)))))] c r s fun v0 s => fad n1 (r q1) fun v1 => ld s v1 fun v2 => c n47 [v0, v2] s fun v3 s => K [v3] s)
 (.seq (.seq (.reg [q65, q66] fun c r s K => fad n2 (r q1) fun v0 => ld s v0 fun v1 => fad n3 (r q1) fun v2 => ld s v2 fun v3 => binK .add v1 v3 fun v4 => K [v4, I0] s)
 (.block n0 (.loop (.seq (.reg [q67] fun c r s K => binK .lss (r q66) (r q65) fun v0 => K [v0] s)
 (.seq (.cond (.t q67) .skip
 (.exit n0))
 (.seq (.block n1 (.seq (.reg [q5] fun c r s K => K [(r q66)] s)
 (.reg [] fun c r s K => ixs n1 (r q4) (r q5) fun v0 => sto s n1 v0 I0 fun s => K [] s)))
 (.reg [q66] fun c r s K => binK .add (r q66) I1 fun v0 => K [v0] s)))))))
 (.seq (.seq (.reg [q74, q75, q76] fun c r s K => fad n4 (r q1) fun v0 => ld s v0 fun v1 => lnS v1 fun v2 => K [v1, v2, I0] s)
 (.block n2 (.loop (.seq (.reg [q77] fun c r s K => binK .lss (r q76) (r q75) fun v0 => K [v0] s)
 (.seq (.cond (.t q77) .skip
 (.exit n2))
 (.seq (.block n3 (.seq (.reg [q7, q6] fun c r s K => ixs n11 (r q74) (r q76) fun v0 => lN s n11 v0 fun v1 => alc s [zb, zi, zi, zi, zi, zu, zu, zu, zu, zu, zi] fun v2 s => sto s n11 v2 v1 fun s => K [v2, (r q76)] s)
 (.seq (.seq (.drw [q121] fun c r s K => (fun z m => dN z m n1 n0 s n5 (r q1) fun v0 m s => dN z m n2 n0 s n11 (r q7) fun v1 m s => dw3 m n4 n3 s (fun s q => c n48 [v0, v1] s q) fun v2 m s => nott v2 fun v3 => jnD false v3 (fun jj => fad n0 (r q7) fun v => jj v m s) m s fun v4 m s => jnD false v3 (fun jj => dL z m n64 n63 s v4 jj) m s fun v5 m s => jnD false v3 (fun jj => binK .eql v5 B3 fun v => jj v m s) m s fun v6 m s => jnD false v3 (fun jj => jj v6 m s) m s fun v7 m s => jnD true v7 (fun jj => jj (r q6) m s) m s fun v8 m s => jnD true v7 (fun jj => binK .add v8 I1 fun v => jj v m s) m s fun v9 m s => jnD true v7 (fun jj => fad n4 (r q1) fun v => jj v m s) m s fun v10 m s => jnD true v7 (fun jj => dL z m (nat_lit 4096) (nat_lit 2559) s v10 jj) m s fun v11 m s => jnD true v7 (fun jj => lnS v11 fun v => jj v m s) m s fun v12 m s => jnD true v7 (fun jj => binK .eql v9 v12 fun v => jj v m s) m s fun v13 m s => jnD true v7 (fun jj => jj v13 m s) m s fun v14 m s => jnD false v14 (fun jj => fad n4 (r q1) fun v => jj v m s) m s fun v15 m s => jnD false v14 (fun jj => dL z m (nat_lit 131072) (nat_lit 131071) s v15 jj) m s fun v16 m s => jnD false v14 (fun jj => jj (r q6) m s) m s fun v17 m s => jnD false v14 (fun jj => binK .add v17 I1 fun v => jj v m s) m s fun v18 m s => jnD false v14 (fun jj => ixs n11 v16 v18 fun v => jj v m s) m s fun v19 m s => jnD false v14 (fun jj => fad n1 v19 fun v => jj v m s) m s fun v20 m s => jnD false v14 (fun jj => dw2 z m (nat_lit 4194304) (nat_lit 4194303) v20 (fun q => h_op3_sliceA n4 n1 (.c v20) none none none c r s q) jj) m s fun v21 m s => jnD false v14 (fun jj => dw3 m (nat_lit 8388608) (nat_lit 8388607) s (fun s q => c n49 [v21] s q) jj) m s fun v22 m s => jnD false v14 (fun jj => binK .lss v22 I0 fun v => jj v m s) m s fun v23 m s => jnD true v7 (fun jj => pck v14 tt v23 fun v => jj v m s) m s fun v24 m s => jnD true v7 (fun jj => jj v24 m s) m s fun v25 m s => jnD false v25 (fun jj => fad n4 (r q1) fun v => jj v m s) m s fun v26 m s => jnD false v25 (fun jj => dL z m (nat_lit 268435456) (nat_lit 268435455) s v26 jj) m s fun v27 m s => jnD false v25 (fun jj => jj (r q6) m s) m s fun v28 m s => jnD false v25 (fun jj => binK .add v28 I1 fun v => jj v m s) m s fun v29 m s => jnD false v25 (fun jj => ixs n11 v27 v29 fun v => jj v m s) m s fun v30 m s => jnD false v25 (fun jj => fad n1 v30 fun v => jj v m s) m s fun v31 m s => jnD false v25 (fun jj => dw2 z m (nat_lit 8589934592) (nat_lit 8589934591) v31 (fun q => h_op3_sliceA n4 n1 (.c v31) none none none c r s q) jj) m s fun v32 m s => jnD false v25 (fun jj => dw3 m (nat_lit 17179869184) (nat_lit 17179869183) s (fun s q => c n50 [v32] s q) jj) m s fun v33 m s => jnD false v25 (fun jj => fad n1 (r q1) fun v => jj v m s) m s fun v34 m s => jnD false v25 (fun jj => dL z m (nat_lit 68719476736) (nat_lit 34493956095) s v34 jj) m s fun v35 m s => jnD false v25 (fun jj => binK .geq v33 v35 fun v => jj v m s) m s fun v36 m s => jnD true v7 (fun jj => pck v25 tt v36 fun v => jj v m s) m s fun v37 m s => jnD false v3 (fun jj => pck v7 v37 ff fun v => jj v m s) m s fun v38 m s => pck v3 tt v38 fun v39 => K [v39] s) s.next mk0)
 (.cond (.t q121) (.seq (.reg [q2, q3] fun c r s K => K [(.sc zn), ff] s)
 .ret)
 .skip))
 (.seq (.reg [q8] fun c r s K => K [I0] s)
 (.seq (.seq (.reg [q123, q124] fun c r s K => lN s n11 (r q7) fun v0 => c n51 [v0] s fun v1 s => K [v1, I0] s)
 (.block n4 (.loop (.seq (.reg [q125] fun c r s K => binK .lss (r q124) I4 fun v0 => K [v0] s)
 (.seq (.cond (.t q125) .skip
 (.exit n4))
 (.seq (.block n5 (.seq (.reg [q9, q10] fun c r s K => h_op2_idxV n4 n1 false (.c (r q123)) (.c (r q124)) c r s fun v0 s => K [(r q124), v0] s)
 (.seq (.seq (.reg [q129] fun c r s K => nott (r q10) fun v0 => K [v0] s)
 (.cond (.t q129) (.exit n5)
 .skip))
 (.seq (.seq (.reg [q146] fun c r s K => fad n1 (r q7) fun v0 => ixA n4 n1 v0 (r q9) fun v1 => ld s v1 fun v2 => ixs n1 (r q4) v2 fun v3 => ld s v3 fun v4 => binK .lss v4 I0 fun v5 => jt v5 (fad n0 (r q7)) s fun v6 s => jt v5 (ld s v6) s fun v7 s => jt v5 (binK .neq v7 B1) s fun v8 s => mt v5 v8 s fun v9 s => mf v9 (r q9) s fun v10 s => jf v9 (binK .neq v10 I2) s fun v11 s => jt v5 (pck v9 tt v11) s fun v12 s => pck v5 v12 ff fun v13 => K [v13] s)
 (.cond (.t q146) (.seq (.reg [q2, q3] fun c r s K => K [(.sc zn), ff] s)
 .ret)
 .skip))
 (.reg [q8] fun c r s K => fad n1 (r q7) fun v0 => ixA n4 n1 v0 (r q9) fun v1 => ld s v1 fun v2 => ixs n1 (r q4) v2 fun v3 => ld s v3 fun v4 => h_op3_buildS n2 n1 [zi, zi] [(n0, n1, (.c (r q8))), (n1, n1, (.c v4))] c r s fun v5 s => c n52 [v5] s fun v6 s => K [v6] s)))))
 (.reg [q124] fun c r s K => binK .add (r q124) I1 fun v0 => K [v0] s)))))))
 (.seq (.reg [q11] fun c r s K => K [(.sc zn)] s)
 (.seq (.block n6 (.seq (.reg [q158] fun c r s K => fad n0 (r q7) fun v0 => ld s v0 fun v1 => binK .eql v1 B3 fun v2 => K [v2] s)
 (.cond (.t q158) (.reg [q11] fun c r s K => fad n4 (r q1) fun v0 => ld s v0 fun v1 => binK .add (r q6) I1 fun v2 => ixs n11 v1 v2 fun v3 => fad n1 v3 fun v4 => h_op3_sliceA n4 n1 (.c v4) none none none c r s fun v5 s => K [v5] s)
 (.seq (.reg [q169] fun c r s K => fad n8 (r q7) fun v0 => ld s v0 fun v1 => binK .neq v1 U0 fun v2 => K [v2] s)
 (.cond (.t q169) (.reg [q11] fun c r s K => fad n1 (r q7) fun v0 => h_op3_sliceA n4 n1 (.c v0) (some (.c I2)) (some (.c I3)) none c r s fun v1 s => K [v1] s)
 .skip)))))
 (.seq (.reg [q175, q176, q177] fun c r s K => lnS (r q11) fun v0 => K [(r q11), v0, I0] s)
 (.block n7 (.loop (.seq (.reg [q178] fun c r s K => binK .lss (r q177) (r q176) fun v0 => K [v0] s)
 (.seq (.cond (.t q178) .skip
 (.exit n7))
 (.seq (.block n8 (.seq (.reg [q13] fun c r s K => ixs n1 (r q175) (r q177) fun v0 => ld s v0 fun v1 => K [v1] s)
 (.seq (.reg [q185] fun c r s K => ixs n1 (r q4) (r q13) fun v0 => ld s v0 fun v1 => binK .lss v1 I0 fun v2 => K [v2] s)
 (.cond (.t q185) (.reg [] fun c r s K => binK .add (r q8) I1 fun v0 => ixs n1 (r q4) (r q13) fun v1 => sto s n1 v1 v0 fun s => K [] s)
 .skip))))
 (.reg [q177] fun c r s K => binK .add (r q177) I1 fun v0 => K [v0] s))))))))))))))
 (.reg [q76] fun c r s K => binK .add (r q76) I1 fun v0 => K [v0] s)))))))
 (.seq (.reg [q2, q3] fun c r s K => c n53 [(r q4), (.sc (.int .i64 (.negSucc n0)))] s fun v0 s => nott v0 fun v1 => K [(r q4), v1] s)
 .ret))))))), [(.tmp q2), (.tmp q3)], [q0], [q14, q15, q16, q17, q18, q19, q20, q21, q22, q23, q24, q25, q26, q27, q28, q29, q30, q31, q32, q33, q34, q35, q36, q38, q39, q40, q41, q42, q43, q44, q45, q46, q47, q48, q49, q50, q51, q52, q53, q54, q55, q57, q58, q59, q60, q61, q62, q63, q64, q68, q69, q70, q71, q72, q73, q78, q79, q80, q81, q82, q83, q84, q85, q86, q87, q88, q89, q90, q91, q92, q93, q94, q95, q96, q97, q98, q99, q100, q101, q102, q103, q104, q105, q106, q107, q108, q109, q110, q111, q112, q113, q114, q115, q116, q117, q118, q119, q120, q122, q126, q127, q128, q130, q131, q132, q133, q134, q135, q136, q137, q138, q139, q140, q141, q142, q143, q144, q145, q147, q148, q149, q150, q151, q152, q153, q154, q155, q156, q157, q159, q160, q161, q162, q163, q164, q165, q166, q167, q168, q170, q171, q172, q173, q174, q179, q180, q181, q182, q183, q184, q186, q187, q188, q189, q190, q191, q192, q193, q194, q195, q196]⟩
/- slices.Contains[[]int,int] -/
noncomputable def cf53 : HF := ⟨
(.seq (.reg [q4] fun c r s K => K [ff] s)
 (.seq (.reg [q4] fun c r s K => c n66 [(r q0), (r q1)] s fun v0 s => binK .geq v0 I0 fun v1 => K [v1] s)
 .ret)), [(.tmp q4)], [q0, q1], [q5, q6, q7, q8]⟩
/- slices.Index[[]int,int] -/
noncomputable def cf66 : HF := ⟨
(.seq (.reg [q4] fun c r s K => K [I0] s)
 (.seq (.seq (.reg [q7, q8] fun c r s K => lnS (r q0) fun v0 => K [v0, I0] s)
 (.block n0 (.loop (.seq (.reg [q9] fun c r s K => binK .lss (r q8) (r q7) fun v0 => K [v0] s)
 (.seq (.cond (.t q9) .skip
 (.exit n0))
 (.seq (.block n1 (.seq (.reg [q5] fun c r s K => K [(r q8)] s)
 (.seq (.reg [q16] fun c r s K => ixs n1 (r q0) (r q5) fun v0 => ld s v0 fun v1 => binK .eql (r q1) v1 fun v2 => K [v2] s)
 (.cond (.t q16) (.seq (.reg [q4] fun c r s K => K [(r q5)] s)
 .ret)
 .skip))))
 (.reg [q8] fun c r s K => binK .add (r q8) I1 fun v0 => K [v0] s)))))))
 (.seq (.reg [q4] fun c r s K => (fun v0 => K [v0] s) (.sc (.int .i64 (.negSucc n0))))
 .ret))), [(.tmp q4)], [q0, q1], [q6, q10, q11, q12, q13, q14, q15, q17, q18]⟩
/- attestor/gates.deepest -/
noncomputable def cf52 : HF := ⟨
(.seq (.reg [q2] fun c r s K => K [I0] s)
 (.seq (.reg [q3] fun c r s K => K [I0] s)
 (.seq (.seq (.reg [q6, q7, q8] fun c r s K => lnS (r q0) fun v0 => K [(r q0), v0, I0] s)
 (.block n0 (.loop (.seq (.reg [q9] fun c r s K => binK .lss (r q8) (r q7) fun v0 => K [v0] s)
 (.seq (.cond (.t q9) .skip
 (.exit n0))
 (.seq (.block n1 (.seq (.reg [q5] fun c r s K => ixs n1 (r q6) (r q8) fun v0 => ld s v0 fun v1 => K [v1] s)
 (.reg [q3] fun c r s K => h_op4_minmax true [(.c (r q3)), (.c (r q5))] c r s fun v0 s => K [v0] s)))
 (.reg [q8] fun c r s K => binK .add (r q8) I1 fun v0 => K [v0] s)))))))
 (.seq (.reg [q2] fun c r s K => K [(r q3)] s)
 .ret)))), [(.tmp q2)], [q0], [q10, q11, q12, q13, q14, q15, q16]⟩
/- attestor/gates.reads -/
noncomputable def cf51 : HF := ⟨
(.seq (.reg [q1, q2] fun c r s K => bxx s (r q0) fun v0 s => alc s [(.bool false), (.bool false), (.bool false), (.bool false)] fun v1 s => K [v0, v1] s)
 (.seq (.seq (.reg [q4] fun c r s K => fad n0 (r q1) fun v0 => ld s v0 fun v1 => K [v1] s)
 (.block n0 (.seq (.block n3 (.seq (.block n2 (.seq (.block n1 (.seq (.seq (.seq (.reg [q5] fun c r s K => binK .eql (r q4) B1 fun v0 => K [v0] s)
 (.cond (.t q5) (.exit n1)
 .skip))
 (.seq (.seq (.reg [q7] fun c r s K => binK .eql (r q4) B3 fun v0 => K [v0] s)
 (.cond (.t q7) (.exit n2)
 .skip))
 (.seq (.reg [q9] fun c r s K => binK .eql (r q4) B2 fun v0 => K [v0] s)
 (.cond (.t q9) (.exit n3)
 .skip))))
 (.exit n0)))
 (.seq (.seq (.reg [] fun c r s K => fad n5 (r q1) fun v0 => ld s v0 fun v1 => binK .neq v1 U0 fun v2 => jf v2 (fad n7 (r q1)) s fun v3 s => jf v2 (ld s v3) s fun v4 s => jf v2 (binK .neq v4 U0) s fun v5 s => pck v2 tt v5 fun v6 => fad n6 (r q1) fun v7 => ld s v7 fun v8 => binK .neq v8 U0 fun v9 => jf v9 (fad n7 (r q1)) s fun v10 s => jf v9 (ld s v10) s fun v11 s => jf v9 (binK .neq v11 U0) s fun v12 s => pck v9 tt v12 fun v13 => fad n8 (r q1) fun v14 => ld s v14 fun v15 => binK .neq v15 U0 fun v16 => h_op3_build [(.bool false), (.bool false), (.bool false), (.bool false)] [(n0, n1, (.c v6)), (n1, n1, (.c v13)), (n2, n1, (.c v16)), (n3, n1, (.c ff))] c r s fun v17 s => sto s n4 (r q2) v17 fun s => K [] s)
 .ret)
 (.exit n0))))
 (.reg [] fun c r s K => ixA n4 n1 (r q2) I3 fun v0 => sto s n1 v0 tt fun s => ixA n4 n1 (r q2) I2 fun v2 => sto s n1 v2 tt fun s => ixA n4 n1 (r q2) I1 fun v4 => sto s n1 v4 tt fun s => K [] s)))
 (.seq (.reg [] fun c r s K => ixA n4 n1 (r q2) I0 fun v0 => sto s n1 v0 tt fun s => K [] s)
 (.exit n0)))))
 (.seq (.reg [] fun c r s K => lN s n4 (r q2) fun v0 => sto s n4 (r q2) v0 fun s => K [] s)
 .ret))), [(.cellN n4 q2)], [q0], [q3, q6, q8, q10, q11, q12, q13, q14, q15, q16, q17, q18, q19, q20, q21, q22, q23, q24, q25, q26, q27, q28, q29, q30, q31, q32, q33, q34, q35]⟩
/- slices.Max[[]int,int] -/
noncomputable def cf50 : HF := ⟨
(.seq (.reg [q2] fun c r s K => K [I0] s)
 (.seq (.seq (.reg [q7] fun c r s K => lnS (r q0) fun v0 => binK .lss v0 I1 fun v1 => K [v1] s)
 (.cond (.t q7) (.reg [] fun c r s K => h_op4_iface n9 (.c (.sc (.lit (.string ⟨#[115, 108, 105, 99, 101, 115, 46, 77, 97, 120, 58, 32, 101, 109, 112, 116, 121, 32, 108, 105, 115, 116]⟩)))) c r s fun v0 s => h_op4_bad n102 c r s fun _ s => K [] s)
 .skip))
 (.seq (.reg [q3] fun c r s K => ixs n1 (r q0) I0 fun v0 => ld s v0 fun v1 => K [v1] s)
 (.seq (.seq (.reg [q4] fun c r s K => K [I1] s)
 (.block n0 (.loop (.seq (.seq (.reg [q15] fun c r s K => lnS (r q0) fun v0 => binK .lss (r q4) v0 fun v1 => K [v1] s)
 (.cond (.t q15) .skip
 (.exit n0)))
 (.seq (.block n1 (.reg [q3] fun c r s K => ixs n1 (r q0) (r q4) fun v0 => ld s v0 fun v1 => h_op4_minmax true [(.c (r q3)), (.c v1)] c r s fun v2 s => K [v2] s))
 (.reg [q4] fun c r s K => binK .add (r q4) I1 fun v0 => K [v0] s))))))
 (.seq (.reg [q2] fun c r s K => K [(r q3)] s)
 .ret))))), [(.tmp q2)], [q0], [q5, q6, q8, q9, q10, q11, q12, q13, q14, q18, q19, q20, q21, q22, q23, q16, q17, q24]⟩
/- slices.Min[[]int,int] -/
noncomputable def cf49 : HF := ⟨
(.seq (.reg [q2] fun c r s K => K [I0] s)
 (.seq (.seq (.reg [q7] fun c r s K => lnS (r q0) fun v0 => binK .lss v0 I1 fun v1 => K [v1] s)
 (.cond (.t q7) (.reg [] fun c r s K => h_op4_iface n9 (.c (.sc (.lit (.string ⟨#[115, 108, 105, 99, 101, 115, 46, 77, 105, 110, 58, 32, 101, 109, 112, 116, 121, 32, 108, 105, 115, 116]⟩)))) c r s fun v0 s => h_op4_bad n102 c r s fun _ s => K [] s)
 .skip))
 (.seq (.reg [q3] fun c r s K => ixs n1 (r q0) I0 fun v0 => ld s v0 fun v1 => K [v1] s)
 (.seq (.seq (.reg [q4] fun c r s K => K [I1] s)
 (.block n0 (.loop (.seq (.seq (.reg [q15] fun c r s K => lnS (r q0) fun v0 => binK .lss (r q4) v0 fun v1 => K [v1] s)
 (.cond (.t q15) .skip
 (.exit n0)))
 (.seq (.block n1 (.reg [q3] fun c r s K => ixs n1 (r q0) (r q4) fun v0 => ld s v0 fun v1 => h_op4_minmax false [(.c (r q3)), (.c v1)] c r s fun v2 s => K [v2] s))
 (.reg [q4] fun c r s K => binK .add (r q4) I1 fun v0 => K [v0] s))))))
 (.seq (.reg [q2] fun c r s K => K [(r q3)] s)
 .ret))))), [(.tmp q2)], [q0], [q5, q6, q8, q9, q10, q11, q12, q13, q14, q18, q19, q20, q21, q22, q23, q16, q17, q24]⟩
/- attestor/gates.formed -/
noncomputable def cf48 : HF := ⟨
(.seq (.reg [q2, q3, q4] fun c r s K => bxx s (r q0) fun v0 s => bxx s (r q1) fun v1 s => K [v0, v1, ff] s)
 (.seq (.reg [q5] fun c r s K => fad n5 (r q3) fun v0 => ld s v0 fun v1 => fad n6 (r q3) fun v2 => ld s v2 fun v3 => fad n7 (r q3) fun v4 => ld s v4 fun v5 => fad n8 (r q3) fun v6 => ld s v6 fun v7 => fad n9 (r q3) fun v8 => ld s v8 fun v9 => h_op3_buildS n5 n1 [zu, zu, zu, zu, zu] [(n0, n1, (.c v1)), (n1, n1, (.c v3)), (n2, n1, (.c v5)), (n3, n1, (.c v7)), (n4, n1, (.c v9))] c r s fun v10 s => K [v10] s)
 (.seq (.block n0 (.seq (.seq (.reg [q20] fun c r s K => fad n0 (r q3) fun v0 => ld s v0 fun v1 => binK .gtr v1 B3 fun v2 => K [v2] s)
 (.cond (.t q20) .skip
 (.seq (.reg [q20] fun c r s K => fad n10 (r q3) fun v0 => ld s v0 fun v1 => binK .lss v1 I0 fun v2 => K [v2] s)
 (.cond (.t q20) .skip
 (.reg [q20] fun c r s K => fad n10 (r q3) fun v0 => ld s v0 fun v1 => binK .geq v1 I8 fun v2 => K [v2] s)))))
 (.cond (.t q20) (.seq (.reg [q4] fun c r s K => K [ff] s)
 .ret)
 (.seq (.seq (.reg [q30] fun c r s K => fad n0 (r q3) fun v0 => ld s v0 fun v1 => binK .neq v1 B3 fun v2 => jt v2 (fad n10 (r q3)) s fun v3 s => jt v2 (ld s v3) s fun v4 s => jt v2 (binK .neq v4 I0) s fun v5 s => pck v2 v5 ff fun v6 => K [v6] s)
 (.cond (.t q30) .skip
 (.drw [q30] fun c r s K => (fun z m => dw3 m n2 n1 s (fun s q => c n55 [(r q5)] s q) fun v0 m s => fad n0 (r q2) fun v1 => dL z m n8 n4 s v1 fun v2 m s => dw3 m n16 n15 s (fun s q => c n54 [v2] s q) fun v3 m s => binK .geq v0 v3 fun v4 => K [v4] s) s.next mk0)))
 (.cond (.t q30) (.seq (.reg [q4] fun c r s K => K [ff] s)
 .ret)
 (.seq (.reg [q45] fun c r s K => fad n0 (r q3) fun v0 => ld s v0 fun v1 => binK .neq v1 B1 fun v2 => mt v2 (r q5) s fun v3 s => jn true v2 (fun j => c n55 [v3] s j) s fun v4 s => jt v2 (binK .neq v4 U0) s fun v5 s => pck v2 v5 ff fun v6 => K [v6] s)
 (.cond (.t q45) (.seq (.reg [q4] fun c r s K => K [ff] s)
 .ret)
 .skip)))))))
 (.seq (.seq (.reg [q55, q56] fun c r s K => lN s n11 (r q3) fun v0 => c n51 [v0] s fun v1 s => K [v1, I0] s)
 (.block n1 (.loop (.seq (.reg [q57] fun c r s K => binK .lss (r q56) I4 fun v0 => K [v0] s)
 (.seq (.cond (.t q57) .skip
 (.exit n1))
 (.seq (.block n2 (.seq (.reg [q6, q7] fun c r s K => h_op2_idxV n4 n1 false (.c (r q55)) (.c (r q56)) c r s fun v0 s => K [(r q56), v0] s)
 (.seq (.reg [q8] fun c r s K => fad n1 (r q3) fun v0 => ixA n4 n1 v0 (r q6) fun v1 => ld s v1 fun v2 => K [v2] s)
 (.seq (.reg [q78] fun c r s K => binK .lss (r q8) (.sc (.int .i64 (.negSucc n0))) fun v0 => mf v0 (r q8) s fun v1 s => jf v0 (fad n1 (r q2)) s fun v2 s => jf v0 (ld s v2) s fun v3 s => jf v0 (binK .geq v1 v3) s fun v4 s => pck v0 tt v4 fun v5 => mf v5 (r q7) s fun v6 s => mf v5 v6 s fun v7 s => mt v7 (r q8) s fun v8 s => jt v7 (binK .lss v8 I0) s fun v9 s => jf v5 (pck v7 v9 ff) s fun v10 s => pck v5 tt v10 fun v11 => K [v11] s)
 (.cond (.t q78) (.seq (.reg [q4] fun c r s K => K [ff] s)
 .ret)
 .skip)))))
 (.reg [q56] fun c r s K => binK .add (r q56) I1 fun v0 => K [v0] s)))))))
 (.seq (.reg [q4] fun c r s K => K [tt] s)
 .ret))))), [(.tmp q4)], [q0, q1], [q9, q10, q11, q12, q13, q14, q15, q16, q17, q18, q19, q21, q22, q23, q24, q25, q26, q27, q28, q29, q31, q32, q33, q34, q35, q36, q37, q38, q39, q40, q41, q42, q43, q44, q46, q47, q48, q49, q50, q51, q52, q53, q54, q58, q59, q60, q61, q62, q63, q64, q65, q66, q67, q68, q69, q70, q71, q72, q73, q74, q75, q76, q77, q79]⟩
/- attestor/field.P -/
noncomputable def cf54 : HF := ⟨
(.seq (.reg [q2] fun c r s K => K [U0] s)
 (.seq (.reg [q2] fun c r s K => c n67 [(r q0)] s fun v0 s => fld n0 n1 false v0 fun v1 => K [v1] s)
 .ret)), [(.tmp q2)], [q0], [q3, q4, q5]⟩
/- attestor/field.of -/
noncomputable def cf67 : HF := ⟨
(.seq (.reg [q2] fun c r s K => alc s [zu, zu, zi, zi, zn] fun v0 s => K [v0] s)
 (.seq (.seq (.reg [q5] fun c r s K => c n46 [(r q0)] s fun v0 s => nott v0 fun v1 => K [v1] s)
 (.cond (.t q5) (.seq (.reg [] fun c r s K => h_op3_build [zu, zu, zi, zi, zn] [] c r s fun v0 s => sto s n5 (r q2) v0 fun s => K [] s)
 .ret)
 .skip))
 (.seq (.reg [] fun c r s K => ixA n4 n5 (.sc (.ptr n0 n0)) (r q0) fun v0 => lN s n5 v0 fun v1 => sto s n5 (r q2) v1 fun s => K [] s)
 .ret))), [(.cellN n5 q2)], [q0], [q3, q4, q6, q7, q8, q9]⟩
/- slices.Max[[]uint64,uint64] -/
noncomputable def cf55 : HF := ⟨
(.seq (.reg [q2] fun c r s K => K [U0] s)
 (.seq (.seq (.reg [q7] fun c r s K => lnS (r q0) fun v0 => binK .lss v0 I1 fun v1 => K [v1] s)
 (.cond (.t q7) (.reg [] fun c r s K => h_op4_iface n9 (.c (.sc (.lit (.string ⟨#[115, 108, 105, 99, 101, 115, 46, 77, 97, 120, 58, 32, 101, 109, 112, 116, 121, 32, 108, 105, 115, 116]⟩)))) c r s fun v0 s => h_op4_bad n102 c r s fun _ s => K [] s)
 .skip))
 (.seq (.reg [q3] fun c r s K => ixs n1 (r q0) I0 fun v0 => ld s v0 fun v1 => K [v1] s)
 (.seq (.seq (.reg [q4] fun c r s K => K [I1] s)
 (.block n0 (.loop (.seq (.seq (.reg [q15] fun c r s K => lnS (r q0) fun v0 => binK .lss (r q4) v0 fun v1 => K [v1] s)
 (.cond (.t q15) .skip
 (.exit n0)))
 (.seq (.block n1 (.reg [q3] fun c r s K => ixs n1 (r q0) (r q4) fun v0 => ld s v0 fun v1 => h_op4_minmax true [(.c (r q3)), (.c v1)] c r s fun v2 s => K [v2] s))
 (.reg [q4] fun c r s K => binK .add (r q4) I1 fun v0 => K [v0] s))))))
 (.seq (.reg [q2] fun c r s K => K [(r q3)] s)
 .ret))))), [(.tmp q2)], [q0], [q5, q6, q8, q9, q10, q11, q12, q13, q14, q18, q19, q20, q21, q22, q23, q16, q17, q24]⟩
/- slices.Repeat[[]int,int] -/
noncomputable def cf47 : HF := ⟨
(.seq (.reg [q4] fun c r s K => K [(.sc zn)] s)
 (.seq (.seq (.reg [q10] fun c r s K => binK .lss (r q1) I0 fun v0 => K [v0] s)
 (.cond (.t q10) (.reg [] fun c r s K => h_op4_iface n9 (.c (.sc (.lit (.string ⟨#[99, 97, 110, 110, 111, 116, 32, 98, 101, 32, 110, 101, 103, 97, 116, 105, 118, 101]⟩)))) c r s fun v0 s => h_op4_bad n102 c r s fun _ s => K [] s)
 .skip))
 (.seq (.reg [q5, q6] fun c r s K => lnS (r q0) fun v0 => cnv .u64 v0 fun v1 => cnv .u64 (r q1) fun v2 => c n65 [v1, v2] s fun v3 s => xE n0 v3 c r s fun v4 s => xE n1 v3 c r s fun v5 s => K [v4, v5] s)
 (.seq (.seq (.reg [q26] fun c r s K => binK .gtr (r q5) U0 fun v0 => mf v0 (r q6) s fun v1 s => jf v0 (binK .gtr v1 (u6 (nat_lit 9223372036854775807))) s fun v2 s => pck v0 tt v2 fun v3 => K [v3] s)
 (.cond (.t q26) (.reg [] fun c r s K => h_op4_iface n9 (.c (.sc (.lit (.string ⟨#[116, 104, 101, 32, 114, 101, 115, 117, 108, 116, 32, 111, 102, 32, 40, 108, 101, 110, 40, 120, 41, 32, 42, 32, 99, 111, 117, 110, 116, 41, 32, 111, 118, 101, 114, 102, 108, 111, 119, 115]⟩)))) c r s fun v0 s => h_op4_bad n102 c r s fun _ s => K [] s)
 .skip))
 (.seq (.reg [q7] fun c r s K => cnv .i64 (r q6) fun v0 => xM n1 n8 [zi] v0 v0 c r s fun v1 s => K [v1] s)
 (.seq (.reg [q8] fun c r s K => h_op3_copy n1 (.c (r q7)) (.c (r q0)) c r s fun v0 s => K [v0] s)
 (.seq (.block n0 (.loop (.seq (.seq (.reg [q37] fun c r s K => lnS (r q7) fun v0 => binK .lss (r q8) v0 fun v1 => K [v1] s)
 (.cond (.t q37) .skip
 (.exit n0)))
 (.block n1 (.drw [q8] fun c r s K => (fun z m => h_op3_sliceS n1 (.c (r q7)) (some (.c (r q8))) none none c r s fun v0 s => h_op3_sliceS n1 (.c (r q7)) none (some (.c (r q8))) none c r s fun v1 s => dw5 z m n128 n126 s (.more (.more (.copy n1 (.c v0) (.c v1)))) r (fun s q => h_op3_copy n1 (.c v0) (.c v1) c r s q) fun v2 m s => binK .add (r q8) v2 fun v3 => K [v3] s) s.next mk0)))))
 (.seq (.reg [q4] fun c r s K => K [(r q7)] s)
 .ret)))))))), [(.tmp q4)], [q0, q1], [q9, q11, q13, q14, q15, q16, q17, q18, q12, q19, q20, q21, q22, q23, q24, q25, q27, q28, q29, q30, q31, q32, q33, q34, q35, q36, q38, q39, q40, q41, q42, q43, q44, q45, q46, q47]⟩
/- math/bits.Mul -/
noncomputable def cf65 : HF := ⟨
(.seq (.reg [q4, q5] fun c r s K => K [U0, U0] s)
 (.seq (.cond (.c (.sc (.bool false))) (.seq (.reg [q6, q7] fun c r s K => cnv .u32 (r q0) fun v0 => cnv .u32 (r q1) fun v1 => c n75 [v0, v1] s fun v2 s => xE n0 v2 c r s fun v3 s => xE n1 v2 c r s fun v4 s => K [v3, v4] s)
 (.seq (.reg [q4, q5] fun c r s K => cnv .u64 (r q6) fun v0 => cnv .u64 (r q7) fun v1 => K [v0, v1] s)
 .ret))
 .skip)
 (.seq (.reg [q8, q9] fun c r s K => c n76 [(r q0), (r q1)] s fun v0 s => xE n0 v0 c r s fun v1 s => xE n1 v0 c r s fun v2 s => K [v1, v2] s)
 (.seq (.reg [q4, q5] fun c r s K => K [(r q8), (r q9)] s)
 .ret)))), [(.tmp q4), (.tmp q5)], [q0, q1], [q11, q12, q13, q14, q15, q10, q16, q17, q18, q19, q20, q21, q23, q24, q25, q22, q26, q27, q28, q29]⟩
/- math/bits.Mul64 -/
noncomputable def cf76 : HF := ⟨
(.seq (.reg [q4, q5] fun c r s K => K [U0, U0] s)
 (.seq (.reg [q6] fun c r s K => binK .and (r q0) (u6 (nat_lit 4294967295)) fun v0 => K [v0] s)
 (.seq (.reg [q7] fun c r s K => xS false (r q0) U32 c r s fun v0 s => K [v0] s)
 (.seq (.reg [q8] fun c r s K => binK .and (r q1) (u6 (nat_lit 4294967295)) fun v0 => K [v0] s)
 (.seq (.reg [q9] fun c r s K => xS false (r q1) U32 c r s fun v0 s => K [v0] s)
 (.seq (.reg [q10] fun c r s K => binK .mul (r q6) (r q8) fun v0 => K [v0] s)
 (.seq (.reg [q11] fun c r s K => binK .mul (r q7) (r q8) fun v0 => xS false (r q10) U32 c r s fun v1 s => binK .add v0 v1 fun v2 => K [v2] s)
 (.seq (.reg [q12] fun c r s K => binK .and (r q11) (u6 (nat_lit 4294967295)) fun v0 => K [v0] s)
 (.seq (.reg [q13] fun c r s K => xS false (r q11) U32 c r s fun v0 s => K [v0] s)
 (.seq (.reg [q12] fun c r s K => binK .mul (r q6) (r q9) fun v0 => binK .add (r q12) v0 fun v1 => K [v1] s)
 (.seq (.reg [q4] fun c r s K => binK .mul (r q7) (r q9) fun v0 => binK .add v0 (r q13) fun v1 => xS false (r q12) U32 c r s fun v2 s => binK .add v1 v2 fun v3 => K [v3] s)
 (.seq (.reg [q5] fun c r s K => binK .mul (r q0) (r q1) fun v0 => K [v0] s)
 .ret)))))))))))), [(.tmp q4), (.tmp q5)], [q0, q1], [q14, q15, q16, q17, q18, q19, q20, q21, q22, q23, q24, q25, q26, q27, q28, q29, q30, q31, q32, q33, q34, q35, q36, q37, q38, q39, q40, q41, q42, q43, q44, q45, q46, q47, q48, q49, q50]⟩
/- math/bits.Mul32 -/
noncomputable def cf75 : HF := ⟨
(.seq (.reg [q4, q5] fun c r s K => (fun v0 => (fun v1 => K [v0, v1] s) (.sc (.int .u32 (.ofNat n0)))) (.sc (.int .u32 (.ofNat n0))))
 (.seq (.reg [q6] fun c r s K => cnv .u64 (r q0) fun v0 => cnv .u64 (r q1) fun v1 => binK .mul v0 v1 fun v2 => K [v2] s)
 (.seq (.reg [q4, q5] fun c r s K => xS false (r q6) U32 c r s fun v0 s => cnv .u32 v0 fun v1 => cnv .u32 (r q6) fun v2 => K [v1, v2] s)
 .ret))), [(.tmp q4), (.tmp q5)], [q0, q1], [q7, q8, q9, q10, q11, q12, q13, q14, q15, q16]⟩
/- attestor/field.Valid -/
noncomputable def cf46 : HF := ⟨
(.seq (.reg [q2] fun c r s K => K [ff] s)
 (.seq (.reg [q2] fun c r s K => binK .geq (r q0) I0 fun v0 => mt v0 (r q0) s fun v1 s => jt v0 (binK .lss v1 I4) s fun v2 s => pck v0 v2 ff fun v3 => K [v3] s)
 .ret)), [(.tmp q2)], [q0], [q3, q4, q5, q6, q7, q8]⟩
/- attestor/attestorlaw32.product -/
noncomputable def cf28 : HF := ⟨
(.seq (.reg [q2] fun c r s K => alc s [zi, zi, zi, zi, zn] fun v0 s => K [v0] s)
 (.seq (.reg [] fun c r s K => h_op3_build [zi, zi, zi, zi] [(n0, n1, (.c I0)), (n1, n1, (.c I1)), (n2, n1, (.c I2)), (n3, n1, (.c (.sc (.int .i64 (.negSucc n0)))))] c r s fun v0 s => c n39 [(r q0), U1] s fun v1 s => h_op3_build [zb, zi, zi, zi, zi, zu, zu, zu, zu, zu, zi] [(n0, n1, (.c B1)), (n1, n4, (.c v0)), (n7, n1, (.c U1)), (n8, n1, (.c v1))] c r s fun v2 s => h_op3_buildS n1 n11 [zb, zi, zi, zi, zi, zu, zu, zu, zu, zu, zi] [(n0, n11, (.c v2))] c r s fun v3 s => h_op3_build [zi, zi, zi, zi, zn] [(n0, n1, (.c (r q0))), (n1, n1, (.c I3)), (n2, n1, (.c I1)), (n3, n1, (.c I1)), (n4, n1, (.c v3))] c r s fun v4 s => sto s n5 (r q2) v4 fun s => K [] s)
 .ret)), [(.cellN n5 q2)], [q0], [q3, q4, q5, q6, q7, q8, q9]⟩
/- attestor/field.Neg -/
noncomputable def cf39 : HF := ⟨
(.seq (.reg [q4] fun c r s K => K [U0] s)
 (.seq (.reg [q5] fun c r s K => c n54 [(r q0)] s fun v0 s => K [v0] s)
 (.seq (.seq (.reg [q15] fun c r s K => binK .eql (r q5) U0 fun v0 => mf v0 (r q1) s fun v1 s => mf v0 (r q5) s fun v2 s => jf v0 (binK .rem v1 v2) s fun v3 s => jf v0 (binK .eql v3 U0) s fun v4 s => pck v0 tt v4 fun v5 => K [v5] s)
 (.cond (.t q15) (.seq (.reg [q4] fun c r s K => K [U0] s)
 .ret)
 .skip))
 (.seq (.reg [q4] fun c r s K => binK .rem (r q1) (r q5) fun v0 => binK .sub (r q5) v0 fun v1 => K [v1] s)
 .ret)))), [(.tmp q4)], [q0, q1], [q6, q7, q8, q9, q10, q11, q12, q13, q14, q16, q17, q18, q19, q20]⟩
/- attestor/attestorref01.Same -/
noncomputable def cf10 : HF := ⟨
(.seq (.reg [q4] fun c r s K => K [ff] s)
 (.seq (.seq (.reg [q10] fun c r s K => lnS (r q0) fun v0 => lnS (r q1) fun v1 => binK .neq v0 v1 fun v2 => K [v2] s)
 (.cond (.t q10) (.seq (.reg [q4] fun c r s K => K [ff] s)
 .ret)
 .skip))
 (.seq (.seq (.reg [q5] fun c r s K => K [I0] s)
 (.block n0 (.loop (.seq (.seq (.reg [q14] fun c r s K => lnS (r q0) fun v0 => binK .lss (r q5) v0 fun v1 => K [v1] s)
 (.cond (.t q14) .skip
 (.exit n0)))
 (.seq (.block n1 (.seq (.drw [q25] fun c r s K => (fun z m => ixs n1 (r q0) (r q5) fun v0 => dL z m n8 n7 s v0 fun v1 m s => ixs n1 (r q1) (r q5) fun v2 => dL z m n128 n112 s v2 fun v3 m s => binK .neq v1 v3 fun v4 => K [v4] s) s.next mk0)
 (.cond (.t q25) (.seq (.reg [q4] fun c r s K => K [ff] s)
 .ret)
 .skip)))
 (.reg [q5] fun c r s K => binK .add (r q5) I1 fun v0 => K [v0] s))))))
 (.seq (.reg [q4] fun c r s K => K [tt] s)
 .ret)))), [(.tmp q4)], [q0, q1], [q6, q7, q8, q9, q11, q12, q13, q17, q18, q19, q20, q21, q22, q23, q24, q15, q16]⟩
/- attestor/attestorref32.Inputs -/
noncomputable def cf9 : HF := ⟨
(.seq (.reg [q6, q7, q8] fun c r s K => K [(.sc zn), (.sc zn), I0] s)
 (.seq (.seq (.reg [q20] fun c r s K => lnS (r q0) fun v0 => binK .eql v0 I0 fun v1 => mf v1 (r q0) s fun v2 s => jn false v1 (fun j => c n26 [v2] s j) s fun v3 s => jf v1 (binK .neq v3 I0) s fun v4 s => pck v1 tt v4 fun v5 => K [v5] s)
 (.cond (.t q20) (.seq (.reg [q6, q7, q8] fun c r s K => K [(.sc zn), (.sc zn), I1] s)
 .ret)
 .skip))
 (.seq (.reg [q9, q10] fun c r s K => c n27 [(r q0), (r q1), ff] s fun v0 s => xE n0 v0 c r s fun v1 s => xE n1 v0 c r s fun v2 s => K [v1, v2] s)
 (.seq (.reg [q11, q12] fun c r s K => c n27 [(r q0), (r q2), tt] s fun v0 s => xE n0 v0 c r s fun v1 s => xE n1 v0 c r s fun v2 s => K [v1, v2] s)
 (.seq (.seq (.reg [q38] fun c r s K => nott (r q10) fun v0 => mf v0 (r q12) s fun v1 s => jf v0 (nott v1) s fun v2 s => pck v0 tt v2 fun v3 => K [v3] s)
 (.cond (.t q38) (.seq (.reg [q6, q7, q8] fun c r s K => K [(.sc zn), (.sc zn), I1] s)
 .ret)
 .skip))
 (.seq (.reg [q6, q7, q8] fun c r s K => K [(r q9), (r q11), I0] s)
 .ret)))))), [(.tmp q6), (.tmp q7), (.tmp q8)], [q0, q1, q2], [q13, q14, q15, q16, q17, q18, q19, q22, q23, q24, q21, q25, q26, q28, q29, q30, q27, q31, q32, q33, q34, q35, q36, q37, q39, q40]⟩
/- attestor/attestorref32.listed -/
noncomputable def cf27 : HF := ⟨
(.seq (.reg [q6, q7] fun c r s K => K [(.sc zn), ff] s)
 (.seq (.seq (.reg [q15] fun c r s K => lnS (r q1) fun v0 => lnS (r q0) fun v1 => binK .neq v0 v1 fun v2 => K [v2] s)
 (.cond (.t q15) (.seq (.reg [q6, q7] fun c r s K => K [(.sc zn), ff] s)
 .ret)
 .skip))
 (.seq (.reg [q8] fun c r s K => K [(.sc zn)] s)
 (.seq (.seq (.reg [q9] fun c r s K => K [I0] s)
 (.block n0 (.loop (.seq (.seq (.reg [q19] fun c r s K => lnS (r q0) fun v0 => binK .lss (r q9) v0 fun v1 => K [v1] s)
 (.cond (.t q19) .skip
 (.exit n0)))
 (.seq (.block n1 (.seq (.reg [q10] fun c r s K => ixs n5 (r q0) (r q9) fun v0 => fad n2 v0 fun v1 => ld s v1 fun v2 => K [v2] s)
 (.seq (.seq (.reg [q27] fun c r s K => K [(r q2)] s)
 (.cond (.t q27) (.reg [q10] fun c r s K => ixs n5 (r q0) (r q9) fun v0 => fad n3 v0 fun v1 => ld s v1 fun v2 => K [v2] s)
 .skip))
 (.seq (.seq (.drw [q52] fun c r s K => (fun z m => ixs n1 (r q1) (r q9) fun v0 => dL z m n8 n7 s v0 fun v1 m s => lnS v1 fun v2 => binK .neq v2 (r q10) fun v3 => jnD false v3 (fun jj => jj (r q0) m s) m s fun v4 m s => jnD false v3 (fun jj => jj (r q9) m s) m s fun v5 m s => jnD false v3 (fun jj => ixs n5 v4 v5 fun v => jj v m s) m s fun v6 m s => jnD false v3 (fun jj => fad n0 v6 fun v => jj v m s) m s fun v7 m s => jnD false v3 (fun jj => dL z m (nat_lit 4096) (nat_lit 4095) s v7 jj) m s fun v8 m s => jnD false v3 (fun jj => jj (r q1) m s) m s fun v9 m s => jnD false v3 (fun jj => jj (r q9) m s) m s fun v10 m s => jnD false v3 (fun jj => ixs n1 v9 v10 fun v => jj v m s) m s fun v11 m s => jnD false v3 (fun jj => dL z m (nat_lit 65536) (nat_lit 57599) s v11 jj) m s fun v12 m s => jnD false v3 (fun jj => dw3 m (nat_lit 131072) (nat_lit 131071) s (fun s q => c n45 [v8, v12] s q) jj) m s fun v13 m s => jnD false v3 (fun jj => nott v13 fun v => jj v m s) m s fun v14 m s => pck v3 tt v14 fun v15 => K [v15] s) s.next mk0)
 (.cond (.t q52) (.seq (.reg [q6, q7] fun c r s K => K [(.sc zn), ff] s)
 .ret)
 .skip))
 (.reg [q8] fun c r s K => ixs n1 (r q1) (r q9) fun v0 => ld s v0 fun v1 => xA n1 n8 (r q8) v1 c r s fun v2 s => K [v2] s)))))
 (.reg [q9] fun c r s K => binK .add (r q9) I1 fun v0 => K [v0] s))))))
 (.seq (.reg [q6, q7] fun c r s K => K [(r q8), tt] s)
 .ret))))), [(.tmp q6), (.tmp q7)], [q0, q1, q2], [q11, q12, q13, q14, q16, q17, q18, q22, q23, q24, q25, q26, q28, q29, q30, q31, q32, q33, q34, q35, q36, q37, q38, q39, q40, q41, q42, q43, q44, q45, q46, q47, q48, q49, q50, q51, q53, q54, q55, q56, q57, q58, q20, q21, q59]⟩
/- attestor/attestorref01.Is -/
noncomputable def cf45 : HF := ⟨
(.seq (.reg [q4] fun c r s K => K [ff] s)
 (.seq (.seq (.reg [q5] fun c r s K => K [I0] s)
 (.block n0 (.loop (.seq (.seq (.reg [q9] fun c r s K => lnS (r q1) fun v0 => binK .lss (r q5) v0 fun v1 => K [v1] s)
 (.cond (.t q9) .skip
 (.exit n0)))
 (.seq (.block n1 (.seq (.drw [q18] fun c r s K => (fun z m => ixs n1 (r q1) (r q5) fun v0 => dL z m n8 n7 s v0 fun v1 m s => dw3 m n32 n16 s (fun s q => c n63 [(r q0)] s q) fun v2 m s => binK .geq v1 v2 fun v3 => K [v3] s) s.next mk0)
 (.cond (.t q18) (.seq (.reg [q4] fun c r s K => K [ff] s)
 .ret)
 .skip)))
 (.reg [q5] fun c r s K => binK .add (r q5) I1 fun v0 => K [v0] s))))))
 (.seq (.reg [q4] fun c r s K => c n64 [(r q0)] s fun v0 s => K [v0] s)
 .ret))), [(.tmp q4)], [q0, q1], [q6, q7, q8, q12, q13, q14, q15, q16, q17, q10, q11, q19, q20]⟩
/- attestor/attestorref01.Valid -/
noncomputable def cf64 : HF := ⟨
(.seq (.reg [q2] fun c r s K => K [ff] s)
 (.seq (.reg [q2] fun c r s K => binK .geq (r q0) I0 fun v0 => mt v0 (r q0) s fun v1 s => jt v0 (binK .leq v1 I3) s fun v2 s => pck v0 v2 ff fun v3 => K [v3] s)
 .ret)), [(.tmp q2)], [q0], [q3, q4, q5, q6, q7, q8]⟩
/- attestor/attestorref01.P -/
noncomputable def cf63 : HF := ⟨
(.seq (.reg [q2] fun c r s K => K [U0] s)
 (.seq (.seq (.reg [q3] fun c r s K => K [(r q0)] s)
 (.block n0 (.seq (.reg [q4] fun c r s K => binK .eql (r q3) I0 fun v0 => K [v0] s)
 (.cond (.t q4) (.seq (.reg [q2] fun c r s K => K [(u6 n97)] s)
 .ret)
 (.seq (.reg [q6] fun c r s K => binK .eql (r q3) I1 fun v0 => K [v0] s)
 (.cond (.t q6) (.seq (.reg [q2] fun c r s K => K [(u6 (nat_lit 257))] s)
 .ret)
 (.seq (.reg [q8] fun c r s K => binK .eql (r q3) I2 fun v0 => K [v0] s)
 (.cond (.t q8) (.seq (.reg [q2] fun c r s K => K [(u6 (nat_lit 12289))] s)
 .ret)
 (.seq (.reg [q10] fun c r s K => binK .eql (r q3) I3 fun v0 => K [v0] s)
 (.cond (.t q10) (.seq (.reg [q2] fun c r s K => (fun v0 => K [v0] s) (u6 (nat_lit 998244353)))
 .ret)
 .skip))))))))))
 (.seq (.reg [q2] fun c r s K => K [U0] s)
 .ret))), [(.tmp q2)], [q0], [q5, q7, q9, q11]⟩
/- attestor/attestorref32.fits -/
noncomputable def cf26 : HF := ⟨
(.seq (.reg [q2] fun c r s K => K [I0] s)
 (.seq (.seq (.reg [q3] fun c r s K => K [I0] s)
 (.block n0 (.loop (.seq (.seq (.reg [q7] fun c r s K => lnS (r q0) fun v0 => binK .lss (r q3) v0 fun v1 => K [v1] s)
 (.cond (.t q7) .skip
 (.exit n0)))
 (.seq (.block n1 (.seq (.drw [q27] fun c r s K => (fun z m => ixs n5 (r q0) (r q3) fun v0 => dN z m n8 n7 s n5 v0 fun v1 m s => dw3 m n16 n15 s (fun s q => c n44 [v1] s q) fun v2 m s => nott v2 fun v3 => jnD false v3 (fun jj => jj (r q0) m s) m s fun v4 m s => jnD false v3 (fun jj => jj (r q3) m s) m s fun v5 m s => jnD false v3 (fun jj => ixs n5 v4 v5 fun v => jj v m s) m s fun v6 m s => jnD false v3 (fun jj => fad n0 v6 fun v => jj v m s) m s fun v7 m s => jnD false v3 (fun jj => dL z m (nat_lit 2048) (nat_lit 2047) s v7 jj) m s fun v8 m s => jnD false v3 (fun jj => jj (r q0) m s) m s fun v9 m s => jnD false v3 (fun jj => ixs n5 v9 I0 fun v => jj v m s) m s fun v10 m s => jnD false v3 (fun jj => fad n0 v10 fun v => jj v m s) m s fun v11 m s => jnD false v3 (fun jj => dL z m (nat_lit 32768) (nat_lit 28799) s v11 jj) m s fun v12 m s => jnD false v3 (fun jj => binK .neq v8 v12 fun v => jj v m s) m s fun v13 m s => pck v3 tt v13 fun v14 => K [v14] s) s.next mk0)
 (.cond (.t q27) (.seq (.reg [q2] fun c r s K => K [I1] s)
 .ret)
 .skip)))
 (.reg [q3] fun c r s K => binK .add (r q3) I1 fun v0 => K [v0] s))))))
 (.seq (.reg [q2] fun c r s K => K [I0] s)
 .ret))), [(.tmp q2)], [q0], [q4, q5, q6, q10, q11, q12, q13, q14, q15, q16, q17, q18, q19, q20, q21, q22, q23, q24, q25, q26, q8, q9]⟩
/- attestor/attestorref23.Valid -/
noncomputable def cf44 : HF := ⟨
(.seq (.reg [q1, q2] fun c r s K => bxx s (r q0) fun v0 s => K [v0, ff] s)
 (.seq (.seq (.reg [q7] fun c r s K => lN s n5 (r q1) fun v0 => c n61 [v0] s fun v1 s => nott v1 fun v2 => K [v2] s)
 (.cond (.t q7) (.seq (.reg [q2] fun c r s K => K [ff] s)
 .ret)
 .skip))
 (.seq (.reg [q4] fun c r s K => lN s n5 (r q1) fun v0 => c n62 [v0] s fun v1 s => xE n0 v1 c r s fun v2 s => xE n1 v1 c r s fun v3 s => K [v3] s)
 (.seq (.reg [q2] fun c r s K => K [(r q4)] s)
 .ret)))), [(.tmp q2)], [q0], [q5, q6, q9, q10, q8, q11, q12, q3, q13]⟩
/- attestor/attestorref23.order -/
noncomputable def cf62 : HF := ⟨
(.seq (.reg [q1, q2, q3] fun c r s K => bxx s (r q0) fun v0 s => K [v0, (.sc zn), ff] s)
 (.seq (.reg [q4] fun c r s K => fad n1 (r q1) fun v0 => ld s v0 fun v1 => xM n1 n8 [zi] v1 v1 c r s fun v2 s => K [v2] s)
 (.seq (.seq (.reg [q5] fun c r s K => K [I0] s)
 (.block n0 (.loop (.seq (.seq (.reg [q20] fun c r s K => lnS (r q4) fun v0 => binK .lss (r q5) v0 fun v1 => K [v1] s)
 (.cond (.t q20) .skip
 (.exit n0)))
 (.seq (.block n1 (.seq (.reg [] fun c r s K => ixs n1 (r q4) (r q5) fun v0 => sto s n1 v0 (.sc (.int .i64 (.negSucc n0))) fun s => K [] s)
 (.seq (.reg [q32] fun c r s K => fad n2 (r q1) fun v0 => ld s v0 fun v1 => fad n3 (r q1) fun v2 => ld s v2 fun v3 => binK .add v1 v3 fun v4 => binK .lss (r q5) v4 fun v5 => K [v5] s)
 (.cond (.t q32) (.reg [] fun c r s K => ixs n1 (r q4) (r q5) fun v0 => sto s n1 v0 I0 fun s => K [] s)
 .skip))))
 (.reg [q5] fun c r s K => binK .add (r q5) I1 fun v0 => K [v0] s))))))
 (.seq (.seq (.reg [q6] fun c r s K => K [I0] s)
 (.block n2 (.loop (.seq (.seq (.reg [q40] fun c r s K => fad n4 (r q1) fun v0 => ld s v0 fun v1 => lnS v1 fun v2 => binK .lss (r q6) v2 fun v3 => K [v3] s)
 (.cond (.t q40) .skip
 (.exit n2)))
 (.seq (.block n3 (.seq (.reg [q7] fun c r s K => fad n4 (r q1) fun v0 => ld s v0 fun v1 => ixs n11 v1 (r q6) fun v2 => lN s n11 v2 fun v3 => alc s [zb, zi, zi, zi, zi, zu, zu, zu, zu, zu, zi] fun v4 s => sto s n11 v4 v3 fun s => K [v4] s)
 (.seq (.reg [q8] fun c r s K => lN s n11 (r q7) fun v0 => c n74 [v0] s fun v1 s => K [v1] s)
 (.seq (.reg [q9] fun c r s K => K [I0] s)
 (.seq (.seq (.reg [q10] fun c r s K => K [I0] s)
 (.block n4 (.loop (.seq (.seq (.reg [q53] fun c r s K => lnS (r q8) fun v0 => binK .lss (r q10) v0 fun v1 => K [v1] s)
 (.cond (.t q53) .skip
 (.exit n4)))
 (.seq (.block n5 (.seq (.reg [q11] fun c r s K => ixs n1 (r q8) (r q10) fun v0 => ld s v0 fun v1 => fad n1 (r q7) fun v2 => ixA n4 n1 v2 v1 fun v3 => ld s v3 fun v4 => ixs n1 (r q4) v4 fun v5 => ld s v5 fun v6 => K [v6] s)
 (.seq (.seq (.reg [q80] fun c r s K => binK .lss (r q11) I0 fun v0 => jt v0 (fad n0 (r q7)) s fun v1 s => jt v0 (ld s v1) s fun v2 s => jt v0 (binK .eql v2 B1) s fun v3 s => mt v0 v3 s fun v4 s => mt v4 (r q8) s fun v5 s => mt v4 (r q10) s fun v6 s => jt v4 (ixs n1 v5 v6) s fun v7 s => jt v4 (ld s v7) s fun v8 s => jt v4 (binK .eql v8 I2) s fun v9 s => jt v0 (pck v4 v9 ff) s fun v10 s => jt v0 (nott v10) s fun v11 s => pck v0 v11 ff fun v12 => K [v12] s)
 (.cond (.t q80) (.seq (.reg [q2, q3] fun c r s K => K [(.sc zn), ff] s)
 .ret)
 .skip))
 (.reg [q9] fun c r s K => h_op4_minmax true [(.c (r q9)), (.c (r q11))] c r s fun v0 s => K [v0] s))))
 (.reg [q10] fun c r s K => binK .add (r q10) I1 fun v0 => K [v0] s))))))
 (.seq (.seq (.reg [q100] fun c r s K => fad n0 (r q7) fun v0 => ld s v0 fun v1 => binK .eql v1 B1 fun v2 => jt v2 (fad n8 (r q7)) s fun v3 s => jt v2 (ld s v3) s fun v4 s => jt v2 (binK .neq v4 U0) s fun v5 s => pck v2 v5 ff fun v6 => mt v6 (r q4) s fun v7 s => jt v6 (fad n1 (r q7)) s fun v8 s => jt v6 (ixA n4 n1 v8 I2) s fun v9 s => jt v6 (ld s v9) s fun v10 s => jt v6 (ixs n1 v7 v10) s fun v11 s => jt v6 (ld s v11) s fun v12 s => jt v6 (binK .lss v12 I0) s fun v13 s => pck v6 v13 ff fun v14 => K [v14] s)
 (.cond (.t q100) (.reg [] fun c r s K => fad n1 (r q7) fun v0 => ixA n4 n1 v0 I2 fun v1 => ld s v1 fun v2 => binK .add (r q9) I1 fun v3 => ixs n1 (r q4) v2 fun v4 => sto s n1 v4 v3 fun s => K [] s)
 .skip))
 (.seq (.reg [q110] fun c r s K => fad n0 (r q7) fun v0 => ld s v0 fun v1 => binK .eql v1 B3 fun v2 => K [v2] s)
 (.cond (.t q110) (.seq (.reg [q12] fun c r s K => K [I0] s)
 (.block n6 (.loop (.seq (.seq (.reg [q112] fun c r s K => binK .lss (r q12) I4 fun v0 => K [v0] s)
 (.cond (.t q112) .skip
 (.exit n6)))
 (.seq (.block n7 (.seq (.reg [q127] fun c r s K => fad n4 (r q1) fun v0 => ld s v0 fun v1 => binK .add (r q6) I1 fun v2 => ixs n11 v1 v2 fun v3 => fad n1 v3 fun v4 => ixA n4 n1 v4 (r q12) fun v5 => ld s v5 fun v6 => ixs n1 (r q4) v6 fun v7 => ld s v7 fun v8 => binK .lss v8 I0 fun v9 => K [v9] s)
 (.cond (.t q127) (.reg [] fun c r s K => fad n4 (r q1) fun v0 => ld s v0 fun v1 => binK .add (r q6) I1 fun v2 => ixs n11 v1 v2 fun v3 => fad n1 v3 fun v4 => ixA n4 n1 v4 (r q12) fun v5 => ld s v5 fun v6 => binK .add (r q9) I1 fun v7 => ixs n1 (r q4) v6 fun v8 => sto s n1 v8 v7 fun s => K [] s)
 .skip)))
 (.reg [q12] fun c r s K => binK .add (r q12) I1 fun v0 => K [v0] s))))))
 .skip))))))))
 (.reg [q6] fun c r s K => binK .add (r q6) I1 fun v0 => K [v0] s))))))
 (.seq (.seq (.reg [q13] fun c r s K => K [I0] s)
 (.block n8 (.loop (.seq (.seq (.reg [q144] fun c r s K => lnS (r q4) fun v0 => binK .lss (r q13) v0 fun v1 => K [v1] s)
 (.cond (.t q144) .skip
 (.exit n8)))
 (.seq (.block n9 (.seq (.reg [q151] fun c r s K => ixs n1 (r q4) (r q13) fun v0 => ld s v0 fun v1 => binK .lss v1 I0 fun v2 => K [v2] s)
 (.cond (.t q151) (.seq (.reg [q2, q3] fun c r s K => K [(.sc zn), ff] s)
 .ret)
 .skip)))
 (.reg [q13] fun c r s K => binK .add (r q13) I1 fun v0 => K [v0] s))))))
 (.seq (.reg [q2, q3] fun c r s K => K [(r q4), tt] s)
 .ret)))))), [(.tmp q2), (.tmp q3)], [q0], [q14, q15, q16, q17, q18, q19, q23, q24, q25, q26, q27, q28, q29, q30, q31, q33, q34, q35, q21, q22, q36, q37, q38, q39, q43, q44, q45, q46, q47, q48, q49, q50, q51, q52, q56, q57, q58, q59, q60, q61, q62, q63, q64, q65, q66, q67, q68, q69, q70, q71, q72, q73, q74, q75, q76, q77, q78, q79, q81, q82, q83, q54, q55, q84, q85, q86, q87, q88, q89, q90, q91, q92, q93, q94, q95, q96, q97, q98, q99, q101, q102, q103, q104, q105, q106, q107, q108, q109, q111, q115, q116, q117, q118, q119, q120, q121, q122, q123, q124, q125, q126, q128, q129, q130, q131, q132, q133, q134, q135, q136, q137, q138, q139, q140, q113, q114, q41, q42, q141, q142, q143, q147, q148, q149, q150, q145, q146, q152]⟩
/- attestor/attestorref23.Reads -/
noncomputable def cf74 : HF := ⟨
(.seq (.reg [q1, q2] fun c r s K => bxx s (r q0) fun v0 s => K [v0, (.sc zn)] s)
 (.seq (.reg [q3] fun c r s K => K [(.sc zn)] s)
 (.seq (.seq (.reg [q5] fun c r s K => fad n0 (r q1) fun v0 => ld s v0 fun v1 => K [v1] s)
 (.block n0 (.seq (.reg [q6] fun c r s K => binK .eql (r q5) B1 fun v0 => K [v0] s)
 (.cond (.t q6) (.seq (.seq (.reg [q15] fun c r s K => fad n5 (r q1) fun v0 => ld s v0 fun v1 => binK .neq v1 U0 fun v2 => jf v2 (fad n7 (r q1)) s fun v3 s => jf v2 (ld s v3) s fun v4 s => jf v2 (binK .neq v4 U0) s fun v5 s => pck v2 tt v5 fun v6 => K [v6] s)
 (.cond (.t q15) (.reg [q3] fun c r s K => h_op3_buildS n1 n1 [zi] [(n0, n1, (.c I0))] c r s fun v0 s => xA n1 n8 (r q3) v0 c r s fun v1 s => K [v1] s)
 .skip))
 (.seq (.seq (.reg [q26] fun c r s K => fad n6 (r q1) fun v0 => ld s v0 fun v1 => binK .neq v1 U0 fun v2 => jf v2 (fad n7 (r q1)) s fun v3 s => jf v2 (ld s v3) s fun v4 s => jf v2 (binK .neq v4 U0) s fun v5 s => pck v2 tt v5 fun v6 => K [v6] s)
 (.cond (.t q26) (.reg [q3] fun c r s K => h_op3_buildS n1 n1 [zi] [(n0, n1, (.c I1))] c r s fun v0 s => xA n1 n8 (r q3) v0 c r s fun v1 s => K [v1] s)
 .skip))
 (.seq (.reg [q32] fun c r s K => fad n8 (r q1) fun v0 => ld s v0 fun v1 => binK .neq v1 U0 fun v2 => K [v2] s)
 (.cond (.t q32) (.reg [q3] fun c r s K => h_op3_buildS n1 n1 [zi] [(n0, n1, (.c I2))] c r s fun v0 s => xA n1 n8 (r q3) v0 c r s fun v1 s => K [v1] s)
 .skip))))
 (.seq (.reg [q36] fun c r s K => binK .eql (r q5) B2 fun v0 => K [v0] s)
 (.cond (.t q36) (.reg [q3] fun c r s K => h_op3_buildS n1 n1 [zi] [(n0, n1, (.c I0))] c r s fun v0 s => xA n1 n8 (r q3) v0 c r s fun v1 s => K [v1] s)
 (.seq (.reg [q41] fun c r s K => binK .eql (r q5) B3 fun v0 => K [v0] s)
 (.cond (.t q41) (.reg [q3] fun c r s K => h_op3_buildS n4 n1 [zi, zi, zi, zi] [(n0, n1, (.c I0)), (n1, n1, (.c I1)), (n2, n1, (.c I2)), (n3, n1, (.c I3))] c r s fun v0 s => xA n1 n8 (r q3) v0 c r s fun v1 s => K [v1] s)
 .skip))))))))
 (.seq (.reg [q2] fun c r s K => K [(r q3)] s)
 .ret)))), [(.tmp q2)], [q0], [q4, q7, q8, q9, q10, q11, q12, q13, q14, q16, q17, q18, q19, q20, q21, q22, q23, q24, q25, q27, q28, q29, q30, q31, q33, q34, q35, q37, q38, q39, q40, q42, q43, q44, q45, q46]⟩
/- attestor/attestorref23.limits -/
noncomputable def cf61 : HF := ⟨
(.seq (.reg [q1, q2] fun c r s K => bxx s (r q0) fun v0 s => K [v0, ff] s)
 (.seq (.seq (.reg [q49] fun c r s K => fad n0 (r q1) fun v0 => ld s v0 fun v1 => c n64 [v1] s fun v2 s => nott v2 fun v3 => jf v3 (fad n2 (r q1)) s fun v4 s => jf v3 (ld s v4) s fun v5 s => jf v3 (binK .lss v5 I0) s fun v6 s => pck v3 tt v6 fun v7 => jf v7 (fad n2 (r q1)) s fun v8 s => jf v7 (ld s v8) s fun v9 s => jf v7 (binK .gtr v9 I16) s fun v10 s => pck v7 tt v10 fun v11 => jf v11 (fad n3 (r q1)) s fun v12 s => jf v11 (ld s v12) s fun v13 s => jf v11 (binK .lss v13 I0) s fun v14 s => pck v11 tt v14 fun v15 => jf v15 (fad n3 (r q1)) s fun v16 s => jf v15 (ld s v16) s fun v17 s => jf v15 (binK .gtr v17 (i6 (nat_lit 20000))) s fun v18 s => pck v15 tt v18 fun v19 => jf v19 (fad n1 (r q1)) s fun v20 s => jf v19 (ld s v20) s fun v21 s => jf v19 (fad n2 (r q1)) s fun v22 s => jf v19 (ld s v22) s fun v23 s => jf v19 (fad n3 (r q1)) s fun v24 s => jf v19 (ld s v24) s fun v25 s => jf v19 (binK .add v23 v25) s fun v26 s => jf v19 (binK .lss v21 v26) s fun v27 s => pck v19 tt v27 fun v28 => jf v28 (fad n1 (r q1)) s fun v29 s => jf v28 (ld s v29) s fun v30 s => jf v28 (binK .gtr v30 (i6 (nat_lit 40000))) s fun v31 s => pck v28 tt v31 fun v32 => jf v32 (fad n4 (r q1)) s fun v33 s => jf v32 (ld s v33) s fun v34 s => jf v32 (lnS v34) s fun v35 s => jf v32 (binK .gtr v35 (i6 (nat_lit 8000))) s fun v36 s => pck v32 tt v36 fun v37 => K [v37] s)
 (.cond (.t q49) (.seq (.reg [q2] fun c r s K => K [ff] s)
 .ret)
 .skip))
 (.seq (.seq (.reg [q3] fun c r s K => K [I0] s)
 (.block n0 (.loop (.seq (.seq (.reg [q54] fun c r s K => fad n4 (r q1) fun v0 => ld s v0 fun v1 => lnS v1 fun v2 => binK .lss (r q3) v2 fun v3 => K [v3] s)
 (.cond (.t q54) .skip
 (.exit n0)))
 (.seq (.block n1 (.seq (.seq (.drw [q64] fun c r s K => (fun z m => dN z m n1 n0 s n5 (r q1) fun v0 m s => fad n4 (r q1) fun v1 => dL z m n4 n2 s v1 fun v2 m s => ixs n11 v2 (r q3) fun v3 => dN z m n32 n30 s n11 v3 fun v4 m s => dw3 m n64 n63 s (fun s q => c n73 [v0, v4] s q) fun v5 m s => nott v5 fun v6 => K [v6] s) s.next mk0)
 (.cond (.t q64) (.seq (.reg [q2] fun c r s K => K [ff] s)
 .ret)
 .skip))
 (.seq (.seq (.reg [q71] fun c r s K => fad n4 (r q1) fun v0 => ld s v0 fun v1 => ixs n11 v1 (r q3) fun v2 => fad n0 v2 fun v3 => ld s v3 fun v4 => binK .neq v4 B3 fun v5 => K [v5] s)
 (.cond (.t q71) (.exit n1)
 .skip))
 (.seq (.seq (.reg [q77] fun c r s K => binK .add (r q3) I1 fun v0 => fad n4 (r q1) fun v1 => ld s v1 fun v2 => lnS v2 fun v3 => binK .geq v0 v3 fun v4 => K [v4] s)
 (.cond (.t q77) (.seq (.reg [q2] fun c r s K => K [ff] s)
 .ret)
 .skip))
 (.seq (.reg [q4] fun c r s K => K [I0] s)
 (.block n2 (.loop (.seq (.seq (.reg [q79] fun c r s K => binK .lss (r q4) I4 fun v0 => K [v0] s)
 (.cond (.t q79) .skip
 (.exit n2)))
 (.seq (.block n3 (.seq (.reg [q91] fun c r s K => fad n4 (r q1) fun v0 => ld s v0 fun v1 => binK .add (r q3) I1 fun v2 => ixs n11 v1 v2 fun v3 => fad n1 v3 fun v4 => ixA n4 n1 v4 (r q4) fun v5 => ld s v5 fun v6 => binK .lss v6 I0 fun v7 => K [v7] s)
 (.cond (.t q91) (.seq (.reg [q2] fun c r s K => K [ff] s)
 .ret)
 .skip)))
 (.reg [q4] fun c r s K => binK .add (r q4) I1 fun v0 => K [v0] s))))))))))
 (.reg [q3] fun c r s K => binK .add (r q3) I1 fun v0 => K [v0] s))))))
 (.seq (.reg [q2] fun c r s K => K [tt] s)
 .ret)))), [(.tmp q2)], [q0], [q5, q6, q7, q8, q9, q10, q11, q12, q13, q14, q15, q16, q17, q18, q19, q20, q21, q22, q23, q24, q25, q26, q27, q28, q29, q30, q31, q32, q33, q34, q35, q36, q37, q38, q39, q40, q41, q42, q43, q44, q45, q46, q47, q48, q50, q51, q52, q53, q57, q58, q59, q60, q61, q62, q63, q65, q66, q67, q68, q69, q70, q72, q73, q74, q75, q76, q78, q82, q83, q84, q85, q86, q87, q88, q89, q90, q80, q81, q55, q56]⟩
/- attestor/attestorref23.formed -/
noncomputable def cf73 : HF := ⟨
(.seq (.reg [q2, q3, q4] fun c r s K => bxx s (r q0) fun v0 s => bxx s (r q1) fun v1 s => K [v0, v1, ff] s)
 (.seq (.seq (.reg [q32] fun c r s K => fad n0 (r q3) fun v0 => ld s v0 fun v1 => binK .gtr v1 B3 fun v2 => jf v2 (fad n10 (r q3)) s fun v3 s => jf v2 (ld s v3) s fun v4 s => jf v2 (binK .lss v4 I0) s fun v5 s => pck v2 tt v5 fun v6 => jf v6 (fad n10 (r q3)) s fun v7 s => jf v6 (ld s v7) s fun v8 s => jf v6 (binK .gtr v8 I7) s fun v9 s => pck v6 tt v9 fun v10 => jf v10 (fad n0 (r q3)) s fun v11 s => jf v10 (ld s v11) s fun v12 s => jf v10 (binK .neq v12 B3) s fun v13 s => mf v10 v13 s fun v14 s => jt v14 (fad n10 (r q3)) s fun v15 s => jt v14 (ld s v15) s fun v16 s => jt v14 (binK .neq v16 I0) s fun v17 s => jf v10 (pck v14 v17 ff) s fun v18 s => pck v10 tt v18 fun v19 => K [v19] s)
 (.cond (.t q32) (.seq (.reg [q4] fun c r s K => K [ff] s)
 .ret)
 .skip))
 (.seq (.reg [q5] fun c r s K => fad n5 (r q3) fun v0 => ld s v0 fun v1 => fad n6 (r q3) fun v2 => ld s v2 fun v3 => fad n7 (r q3) fun v4 => ld s v4 fun v5 => fad n8 (r q3) fun v6 => ld s v6 fun v7 => fad n9 (r q3) fun v8 => ld s v8 fun v9 => h_op3_buildS n5 n1 [zu, zu, zu, zu, zu] [(n0, n1, (.c v1)), (n1, n1, (.c v3)), (n2, n1, (.c v5)), (n3, n1, (.c v7)), (n4, n1, (.c v9))] c r s fun v10 s => K [v10] s)
 (.seq (.seq (.reg [q6] fun c r s K => K [I0] s)
 (.block n0 (.loop (.seq (.seq (.reg [q47] fun c r s K => lnS (r q5) fun v0 => binK .lss (r q6) v0 fun v1 => K [v1] s)
 (.cond (.t q47) .skip
 (.exit n0)))
 (.seq (.block n1 (.seq (.drw [q69] fun c r s K => (fun z m => ixs n1 (r q5) (r q6) fun v0 => dL z m n8 n7 s v0 fun v1 m s => fad n0 (r q2) fun v2 => dL z m n32 n16 s v2 fun v3 m s => dw3 m n64 n48 s (fun s q => c n63 [v3] s q) fun v4 m s => binK .geq v1 v4 fun v5 => jnD false v5 (fun jj => fad n0 (r q3) fun v => jj v m s) m s fun v6 m s => jnD false v5 (fun jj => dL z m (nat_lit 1024) (nat_lit 1023) s v6 jj) m s fun v7 m s => jnD false v5 (fun jj => binK .neq v7 B1 fun v => jj v m s) m s fun v8 m s => jnD false v5 (fun jj => jj v8 m s) m s fun v9 m s => jnD true v9 (fun jj => jj (r q5) m s) m s fun v10 m s => jnD true v9 (fun jj => jj (r q6) m s) m s fun v11 m s => jnD true v9 (fun jj => ixs n1 v10 v11 fun v => jj v m s) m s fun v12 m s => jnD true v9 (fun jj => dL z m (nat_lit 65536) (nat_lit 65535) s v12 jj) m s fun v13 m s => jnD true v9 (fun jj => binK .neq v13 U0 fun v => jj v m s) m s fun v14 m s => jnD false v5 (fun jj => pck v9 v14 ff fun v => jj v m s) m s fun v15 m s => pck v5 tt v15 fun v16 => K [v16] s) s.next mk0)
 (.cond (.t q69) (.seq (.reg [q4] fun c r s K => K [ff] s)
 .ret)
 .skip)))
 (.reg [q6] fun c r s K => binK .add (r q6) I1 fun v0 => K [v0] s))))))
 (.seq (.seq (.reg [q7] fun c r s K => K [I0] s)
 (.block n2 (.loop (.seq (.seq (.reg [q71] fun c r s K => binK .lss (r q7) I4 fun v0 => K [v0] s)
 (.cond (.t q71) .skip
 (.exit n2)))
 (.seq (.block n3 (.seq (.drw [q87] fun c r s K => (fun z m => fad n1 (r q3) fun v0 => ixA n4 n1 v0 (r q7) fun v1 => dL z m n8 n7 s v1 fun v2 m s => binK .lss v2 (.sc (.int .i64 (.negSucc n0))) fun v3 => jnD false v3 (fun jj => jj (r q7) m s) m s fun v4 m s => jnD false v3 (fun jj => fad n1 (r q3) fun v => jj v m s) m s fun v5 m s => jnD false v3 (fun jj => ixA n4 n1 v5 v4 fun v => jj v m s) m s fun v6 m s => jnD false v3 (fun jj => dL z m (nat_lit 512) (nat_lit 511) s v6 jj) m s fun v7 m s => jnD false v3 (fun jj => fad n1 (r q2) fun v => jj v m s) m s fun v8 m s => jnD false v3 (fun jj => dL z m (nat_lit 2048) (nat_lit 1087) s v8 jj) m s fun v9 m s => jnD false v3 (fun jj => binK .geq v7 v9 fun v => jj v m s) m s fun v10 m s => pck v3 tt v10 fun v11 => K [v11] s) s.next mk0)
 (.cond (.t q87) (.seq (.reg [q4] fun c r s K => K [ff] s)
 .ret)
 .skip)))
 (.reg [q7] fun c r s K => binK .add (r q7) I1 fun v0 => K [v0] s))))))
 (.seq (.reg [q8] fun c r s K => lN s n11 (r q3) fun v0 => c n74 [v0] s fun v1 s => K [v1] s)
 (.seq (.seq (.reg [q9] fun c r s K => K [I0] s)
 (.block n4 (.loop (.seq (.seq (.reg [q93] fun c r s K => lnS (r q8) fun v0 => binK .lss (r q9) v0 fun v1 => K [v1] s)
 (.cond (.t q93) .skip
 (.exit n4)))
 (.seq (.block n5 (.seq (.reg [q103] fun c r s K => ixs n1 (r q8) (r q9) fun v0 => ld s v0 fun v1 => fad n1 (r q3) fun v2 => ixA n4 n1 v2 v1 fun v3 => ld s v3 fun v4 => binK .lss v4 I0 fun v5 => K [v5] s)
 (.cond (.t q103) (.seq (.reg [q4] fun c r s K => K [ff] s)
 .ret)
 .skip)))
 (.reg [q9] fun c r s K => binK .add (r q9) I1 fun v0 => K [v0] s))))))
 (.seq (.reg [q4] fun c r s K => K [tt] s)
 .ret)))))))), [(.tmp q4)], [q0, q1], [q10, q11, q12, q13, q14, q15, q16, q17, q18, q19, q20, q21, q22, q23, q24, q25, q26, q27, q28, q29, q30, q31, q33, q34, q35, q36, q37, q38, q39, q40, q41, q42, q43, q44, q45, q46, q50, q51, q52, q53, q54, q55, q56, q57, q58, q59, q60, q61, q62, q63, q64, q65, q66, q67, q68, q48, q49, q70, q74, q75, q76, q77, q78, q79, q80, q81, q82, q83, q84, q85, q86, q72, q73, q88, q89, q90, q91, q92, q96, q97, q98, q99, q100, q101, q102, q94, q95]⟩
/- attestor/aggregate.Inputs -/
noncomputable def cf8 : HF := ⟨
(.seq (.reg [q6, q7, q8] fun c r s K => K [(.sc zn), (.sc zn), I0] s)
 (.seq (.seq (.reg [q20] fun c r s K => lnS (r q0) fun v0 => binK .eql v0 I0 fun v1 => mf v1 (r q0) s fun v2 s => jn false v1 (fun j => c n22 [v2] s j) s fun v3 s => jf v1 (nott v3) s fun v4 s => pck v1 tt v4 fun v5 => K [v5] s)
 (.cond (.t q20) (.seq (.reg [q6, q7, q8] fun c r s K => K [(.sc zn), (.sc zn), I1] s)
 .ret)
 .skip))
 (.seq (.reg [q9, q10] fun c r s K => c n23 [(r q0), (r q1), (.sc (.fn n24))] s fun v0 s => xE n0 v0 c r s fun v1 s => xE n1 v0 c r s fun v2 s => K [v1, v2] s)
 (.seq (.reg [q11, q12] fun c r s K => c n23 [(r q0), (r q2), (.sc (.fn n25))] s fun v0 s => xE n0 v0 c r s fun v1 s => xE n1 v0 c r s fun v2 s => K [v1, v2] s)
 (.seq (.seq (.reg [q38] fun c r s K => nott (r q10) fun v0 => mf v0 (r q12) s fun v1 s => jf v0 (nott v1) s fun v2 s => pck v0 tt v2 fun v3 => K [v3] s)
 (.cond (.t q38) (.seq (.reg [q6, q7, q8] fun c r s K => K [(.sc zn), (.sc zn), I1] s)
 .ret)
 .skip))
 (.seq (.reg [q6, q7, q8] fun c r s K => K [(r q9), (r q11), I0] s)
 .ret)))))), [(.tmp q6), (.tmp q7), (.tmp q8)], [q0, q1, q2], [q13, q14, q15, q16, q17, q18, q19, q22, q23, q24, q21, q25, q26, q28, q29, q30, q27, q31, q32, q33, q34, q35, q36, q37, q39, q40]⟩
/- attestor/aggregate.Inputs$2 -/
noncomputable def cf25 : HF := ⟨
(.seq (.reg [q1, q2] fun c r s K => bxx s (r q0) fun v0 s => K [v0, I0] s)
 (.seq (.reg [q2] fun c r s K => fad n3 (r q1) fun v0 => ld s v0 fun v1 => K [v1] s)
 .ret)), [(.tmp q2)], [q0], [q3, q4]⟩
/- attestor/aggregate.Inputs$1 -/
noncomputable def cf24 : HF := ⟨
(.seq (.reg [q1, q2] fun c r s K => bxx s (r q0) fun v0 s => K [v0, I0] s)
 (.seq (.reg [q2] fun c r s K => fad n2 (r q1) fun v0 => ld s v0 fun v1 => K [v1] s)
 .ret)), [(.tmp q2)], [q0], [q3, q4]⟩
/- attestor/aggregate.one -/
noncomputable def cf23 : HF := ⟨
(.seq (.reg [q6, q7] fun c r s K => K [(.sc zn), ff] s)
 (.seq (.seq (.reg [q15] fun c r s K => lnS (r q1) fun v0 => lnS (r q0) fun v1 => binK .neq v0 v1 fun v2 => K [v2] s)
 (.cond (.t q15) (.seq (.reg [q6, q7] fun c r s K => K [(.sc zn), ff] s)
 .ret)
 .skip))
 (.seq (.reg [q8] fun c r s K => K [(.sc zn)] s)
 (.seq (.seq (.reg [q16, q17, q18] fun c r s K => lnS (r q1) fun v0 => K [(r q1), v0, I0] s)
 (.block n0 (.loop (.seq (.reg [q19] fun c r s K => binK .lss (r q18) (r q17) fun v0 => K [v0] s)
 (.seq (.cond (.t q19) .skip
 (.exit n0))
 (.seq (.block n1 (.seq (.reg [q9, q10] fun c r s K => ixs n1 (r q16) (r q18) fun v0 => ld s v0 fun v1 => K [(r q18), v1] s)
 (.seq (.seq (.reg [q41] fun c r s K => lnS (r q10) fun v0 => ixs n5 (r q0) (r q9) fun v1 => lN s n5 v1 fun v2 => h_op4_callV (.c (r q2)) [(.c v2)] c r s fun v3 s => binK .neq v0 v3 fun v4 => mf v4 (r q0) s fun v5 s => mf v4 (r q9) s fun v6 s => jf v4 (ixs n5 v5 v6) s fun v7 s => jf v4 (fad n0 v7) s fun v8 s => jf v4 (ld s v8) s fun v9 s => mf v4 (r q10) s fun v10 s => jn false v4 (fun j => c n43 [v9, v10] s j) s fun v11 s => jf v4 (nott v11) s fun v12 s => pck v4 tt v12 fun v13 => K [v13] s)
 (.cond (.t q41) (.seq (.reg [q6, q7] fun c r s K => K [(.sc zn), ff] s)
 .ret)
 .skip))
 (.reg [q8] fun c r s K => xA n1 n8 (r q8) (r q10) c r s fun v0 s => K [v0] s))))
 (.reg [q18] fun c r s K => binK .add (r q18) I1 fun v0 => K [v0] s)))))))
 (.seq (.reg [q6, q7] fun c r s K => K [(r q8), tt] s)
 .ret))))), [(.tmp q6), (.tmp q7)], [q0, q1, q2], [q11, q12, q13, q14, q20, q21, q22, q23, q24, q25, q26, q27, q28, q29, q30, q31, q32, q33, q34, q35, q36, q37, q38, q39, q40, q42, q43, q44, q45, q46]⟩
/- attestor/field.Is -/
noncomputable def cf43 : HF := ⟨
(.seq (.reg [q4] fun c r s K => K [ff] s)
 (.seq (.seq (.reg [q7, q8, q9] fun c r s K => lnS (r q1) fun v0 => K [(r q1), v0, I0] s)
 (.block n0 (.loop (.seq (.reg [q10] fun c r s K => binK .lss (r q9) (r q8) fun v0 => K [v0] s)
 (.seq (.cond (.t q10) .skip
 (.exit n0))
 (.seq (.block n1 (.seq (.reg [q6] fun c r s K => ixs n1 (r q7) (r q9) fun v0 => ld s v0 fun v1 => K [v1] s)
 (.seq (.reg [q16] fun c r s K => c n54 [(r q0)] s fun v0 s => binK .geq (r q6) v0 fun v1 => K [v1] s)
 (.cond (.t q16) (.seq (.reg [q4] fun c r s K => K [ff] s)
 .ret)
 .skip))))
 (.reg [q9] fun c r s K => binK .add (r q9) I1 fun v0 => K [v0] s)))))))
 (.seq (.reg [q4] fun c r s K => c n46 [(r q0)] s fun v0 s => K [v0] s)
 .ret))), [(.tmp q4)], [q0, q1], [q11, q12, q13, q14, q15, q17, q18, q19]⟩
/- attestor/attestorlaw32.lists -/
noncomputable def cf7 : HF := ⟨
(.seq (.reg [q2] fun c r s K => K [(.sc zn)] s)
 (.seq (.reg [q3] fun c r s K => K [(.sc zn)] s)
 (.seq (.seq (.reg [q4] fun c r s K => K [I0] s)
 (.block n0 (.loop (.seq (.seq (.reg [q13] fun c r s K => lnS (r q0) fun v0 => binK .lss (r q4) v0 fun v1 => mt v1 (r q4) s fun v2 s => jt v1 (binK .lss v2 I30) s fun v3 s => pck v1 v3 ff fun v4 => K [v4] s)
 (.cond (.t q13) .skip
 (.exit n0)))
 (.seq (.block n1 (.seq (.reg [q5] fun c r s K => K [(.sc zn)] s)
 (.drw [q3] fun c r s K => (fun z m => ixs n1 (r q0) (r q4) fun v0 => dL z m n32 n28 s v0 fun v1 m s => ixs n1 (r q0) (r q4) fun v2 => dL z m (nat_lit 512) (nat_lit 448) s v2 fun v3 m s => lnS v3 fun v4 => h_op4_minmax false [(.c v4), (.c (i6 (nat_lit 200)))] c r s fun v5 s => h_op3_sliceS n1 (.c v1) none (some (.c v5)) none c r s fun v6 s => dw5 z m (nat_lit 8192) (nat_lit 8190) s (.more (.more (.append n1 n8 (.c (r q5)) (.c v6)))) r (fun s q => xA n1 n8 (r q5) v6 c r s q) fun v7 m s => dw1 m (nat_lit 16384) (fun q => h_op3_buildS n1 n1 [zn] [(n0, n1, (.c v7))] c r s q) fun v8 m s => dw5 z m (nat_lit 32768) (nat_lit 32767) s (.more (.more (.append n1 n24 (.c (r q3)) (.c v8)))) r (fun s q => xA n1 n24 (r q3) v8 c r s q) fun v9 m s => K [v9] s) s.next mk0)))
 (.reg [q4] fun c r s K => binK .add (r q4) I1 fun v0 => K [v0] s))))))
 (.seq (.reg [q2] fun c r s K => K [(r q3)] s)
 .ret)))), [(.tmp q2)], [q0], [q6, q7, q8, q9, q10, q11, q12, q16, q17, q18, q19, q20, q21, q22, q23, q24, q25, q26, q27, q28, q29, q30, q31, q14, q15, q32]⟩
/- attestor/attestorlaw32.few -/
noncomputable def cf6 : HF := ⟨
(.seq (.reg [q4] fun c r s K => K [(.sc zn)] s)
 (.seq (.reg [q5] fun c r s K => K [(.sc zn)] s)
 (.seq (.seq (.reg [q6] fun c r s K => K [I0] s)
 (.block n0 (.loop (.seq (.seq (.reg [q16] fun c r s K => lnS (r q0) fun v0 => binK .lss (r q6) v0 fun v1 => mt v1 (r q5) s fun v2 s => jt v1 (lnS v2) s fun v3 s => mt v1 (r q1) s fun v4 s => jt v1 (binK .lss v3 v4) s fun v5 s => pck v1 v5 ff fun v6 => K [v6] s)
 (.cond (.t q16) .skip
 (.exit n0)))
 (.seq (.block n1 (.seq (.reg [q33] fun c r s K => ixs n5 (r q0) (r q6) fun v0 => fad n1 v0 fun v1 => ld s v1 fun v2 => binK .leq v2 (i6 (nat_lit 200)) fun v3 => mt v3 (r q0) s fun v4 s => mt v3 (r q6) s fun v5 s => jt v3 (ixs n5 v4 v5) s fun v6 s => jt v3 (fad n4 v6) s fun v7 s => jt v3 (ld s v7) s fun v8 s => jt v3 (lnS v8) s fun v9 s => jt v3 (binK .leq v9 (i6 (nat_lit 200))) s fun v10 s => pck v3 v10 ff fun v11 => K [v11] s)
 (.cond (.t q33) (.reg [q5] fun c r s K => ixs n5 (r q0) (r q6) fun v0 => lN s n5 v0 fun v1 => h_op3_buildS n1 n5 [zi, zi, zi, zi, zn] [(n0, n5, (.c v1))] c r s fun v2 s => xA n5 n56 (r q5) v2 c r s fun v3 s => K [v3] s)
 .skip)))
 (.reg [q6] fun c r s K => binK .add (r q6) I1 fun v0 => K [v0] s))))))
 (.seq (.reg [q4] fun c r s K => K [(r q5)] s)
 .ret)))), [(.tmp q4)], [q0, q1], [q7, q8, q9, q10, q11, q12, q13, q14, q15, q19, q20, q21, q22, q23, q24, q25, q26, q27, q28, q29, q30, q31, q32, q34, q35, q36, q37, q38, q39, q40, q17, q18, q41]⟩
/- attestor/attestorlaw32.AggregateJoins -/
noncomputable def cf4 : HF := ⟨
(.seq (.reg [q2] fun c r s K => K [ff] s)
 (.seq (.reg [q0] fun c r s K => c n6 [(r q0), I24] s fun v0 s => K [v0] s)
 (.seq (.reg [q3] fun c r s K => K [(.sc zn)] s)
 (.seq (.seq (.reg [q4] fun c r s K => K [I0] s)
 (.block n0 (.loop (.seq (.seq (.reg [q21] fun c r s K => lnS (r q0) fun v0 => binK .lss (r q4) v0 fun v1 => K [v1] s)
 (.cond (.t q21) .skip
 (.exit n0)))
 (.seq (.block n1 (.seq (.reg [q5] fun c r s K => K [I0] s)
 (.block n2 (.loop (.seq (.seq (.reg [q31] fun c r s K => ixs n5 (r q0) (r q4) fun v0 => fad n4 v0 fun v1 => ld s v1 fun v2 => lnS v2 fun v3 => binK .lss (r q5) v3 fun v4 => K [v4] s)
 (.cond (.t q31) .skip
 (.exit n2)))
 (.seq (.block n3 (.reg [q3] fun c r s K => ixs n5 (r q0) (r q4) fun v0 => fad n4 v0 fun v1 => ld s v1 fun v2 => ixs n11 v2 (r q5) fun v3 => fad n1 v3 fun v4 => lN s n4 v4 fun v5 => h_op3_buildS n1 n4 [zi, zi, zi, zi] [(n0, n4, (.c v5))] c r s fun v6 s => xA n4 n32 (r q3) v6 c r s fun v7 s => K [v7] s))
 (.reg [q5] fun c r s K => binK .add (r q5) I1 fun v0 => K [v0] s)))))))
 (.reg [q4] fun c r s K => binK .add (r q4) I1 fun v0 => K [v0] s))))))
 (.seq (.reg [q6, q7] fun c r s K => c n12 [(r q0)] s fun v0 s => xE n0 v0 c r s fun v1 s => xE n1 v0 c r s fun v2 s => alc s [zi, zi, zi, zi, zn] fun v3 s => sto s n5 v3 v1 fun s => K [v3, v2] s)
 (.seq (.reg [q8, q9] fun c r s K => c n13 [(r q0)] s fun v0 s => xE n0 v0 c r s fun v1 s => xE n1 v0 c r s fun v2 s => alc s [zi, zi, zi, zi, zn] fun v3 s => sto s n5 v3 v1 fun s => K [v3, v2] s)
 (.seq (.reg [q10, q11] fun c r s K => c n14 [(r q0)] s fun v0 s => xE n0 v0 c r s fun v1 s => xE n1 v0 c r s fun v2 s => K [v1, v2] s)
 (.seq (.reg [q12, q13] fun c r s K => c n15 [(r q0)] s fun v0 s => xE n0 v0 c r s fun v1 s => xE n1 v0 c r s fun v2 s => K [v1, v2] s)
 (.seq (.seq (.reg [q85] fun c r s K => binK .neq (r q7) (r q9) fun v0 => jf v0 (lN s n5 (r q6)) s fun v1 s => jf v0 (lN s n5 (r q8)) s fun v2 s => jn false v0 (fun j => c n16 [v1, v2] s j) s fun v3 s => jf v0 (nott v3) s fun v4 s => pck v0 tt v4 fun v5 => mf v5 (r q11) s fun v6 s => mf v5 (r q13) s fun v7 s => jf v5 (binK .neq v6 v7) s fun v8 s => pck v5 tt v8 fun v9 => mf v9 (r q10) s fun v10 s => mf v9 (r q12) s fun v11 s => jn false v9 (fun j => c n17 [v10, v11] s j) s fun v12 s => jf v9 (nott v12) s fun v13 s => pck v9 tt v13 fun v14 => K [v14] s)
 (.cond (.t q85) (.seq (.reg [q2] fun c r s K => K [ff] s)
 .ret)
 .skip))
 (.seq (.seq (.reg [q14] fun c r s K => K [I0] s)
 (.block n4 (.loop (.seq (.seq (.reg [q89] fun c r s K => lnS (r q0) fun v0 => binK .lss (r q14) v0 fun v1 => K [v1] s)
 (.cond (.t q89) .skip
 (.exit n4)))
 (.seq (.block n5 (.seq (.reg [q15] fun c r s K => K [I0] s)
 (.block n6 (.loop (.seq (.seq (.reg [q99] fun c r s K => ixs n5 (r q0) (r q14) fun v0 => fad n4 v0 fun v1 => ld s v1 fun v2 => lnS v2 fun v3 => binK .lss (r q15) v3 fun v4 => K [v4] s)
 (.cond (.t q99) .skip
 (.exit n6)))
 (.seq (.block n7 (.seq (.seq (.drw [q114] fun c r s K => (fun z m => ixs n5 (r q0) (r q14) fun v0 => fad n4 v0 fun v1 => dL z m n16 n15 s v1 fun v2 m s => ixs n11 v2 (r q15) fun v3 => fad n1 v3 fun v4 => dN z m (nat_lit 256) (nat_lit 255) s n4 v4 fun v5 m s => ixs n4 (r q3) I0 fun v6 => dN z m (nat_lit 2048) (nat_lit 1536) s n4 v6 fun v7 m s => h_op4_eqv (.flat [n1, n1, n1, n1]) true (.c v5) (.c v7) c r s fun v8 s => K [v8] s) s.next mk0)
 (.cond (.t q114) (.seq (.reg [q2] fun c r s K => K [ff] s)
 .ret)
 .skip))
 (.reg [q3] fun c r s K => h_op3_sliceS n4 (.c (r q3)) (some (.c I1)) none none c r s fun v0 s => K [v0] s)))
 (.reg [q15] fun c r s K => binK .add (r q15) I1 fun v0 => K [v0] s)))))))
 (.reg [q14] fun c r s K => binK .add (r q14) I1 fun v0 => K [v0] s))))))
 (.seq (.reg [q2] fun c r s K => c n11 [] s fun v0 s => K [v0] s)
 .ret))))))))))), [(.tmp q2)], [q0], [q16, q17, q18, q19, q20, q24, q25, q26, q27, q28, q29, q30, q34, q35, q36, q37, q38, q39, q40, q41, q42, q43, q44, q45, q32, q33, q22, q23, q47, q48, q46, q49, q50, q52, q53, q51, q54, q55, q57, q58, q56, q59, q60, q62, q63, q61, q64, q65, q66, q67, q68, q69, q70, q71, q72, q73, q74, q75, q76, q77, q78, q79, q80, q81, q82, q83, q84, q86, q87, q88, q92, q93, q94, q95, q96, q97, q98, q102, q103, q104, q105, q106, q107, q108, q109, q110, q111, q112, q113, q115, q116, q100, q101, q90, q91, q117]⟩
/- attestor/attestorref32.SameGroups -/
noncomputable def cf17 : HF := ⟨
(.seq (.reg [q4] fun c r s K => K [ff] s)
 (.seq (.seq (.reg [q11] fun c r s K => lnS (r q0) fun v0 => lnS (r q1) fun v1 => binK .neq v0 v1 fun v2 => K [v2] s)
 (.cond (.t q11) (.seq (.reg [q4] fun c r s K => K [ff] s)
 .ret)
 .skip))
 (.seq (.seq (.reg [q5] fun c r s K => K [I0] s)
 (.block n0 (.loop (.seq (.seq (.reg [q15] fun c r s K => lnS (r q0) fun v0 => binK .lss (r q5) v0 fun v1 => K [v1] s)
 (.cond (.t q15) .skip
 (.exit n0)))
 (.seq (.block n1 (.seq (.seq (.drw [q28] fun c r s K => (fun z m => ixs n1 (r q0) (r q5) fun v0 => dL z m n8 n7 s v0 fun v1 m s => lnS v1 fun v2 => ixs n1 (r q1) (r q5) fun v3 => dL z m (nat_lit 256) (nat_lit 224) s v3 fun v4 m s => lnS v4 fun v5 => binK .neq v2 v5 fun v6 => K [v6] s) s.next mk0)
 (.cond (.t q28) (.seq (.reg [q4] fun c r s K => K [ff] s)
 .ret)
 .skip))
 (.seq (.reg [q6] fun c r s K => K [I0] s)
 (.block n2 (.loop (.seq (.seq (.reg [q35] fun c r s K => ixs n1 (r q0) (r q5) fun v0 => ld s v0 fun v1 => lnS v1 fun v2 => binK .lss (r q6) v2 fun v3 => K [v3] s)
 (.cond (.t q35) .skip
 (.exit n2)))
 (.seq (.block n3 (.seq (.drw [q52] fun c r s K => (fun z m => ixs n1 (r q0) (r q5) fun v0 => dL z m n8 n7 s v0 fun v1 m s => ixs n1 v1 (r q6) fun v2 => dL z m n64 n63 s v2 fun v3 m s => ixs n1 (r q1) (r q5) fun v4 => dL z m (nat_lit 1024) (nat_lit 896) s v4 fun v5 m s => ixs n1 v5 (r q6) fun v6 => dL z m (nat_lit 8192) (nat_lit 8064) s v6 fun v7 m s => binK .neq v3 v7 fun v8 => K [v8] s) s.next mk0)
 (.cond (.t q52) (.seq (.reg [q4] fun c r s K => K [ff] s)
 .ret)
 .skip)))
 (.reg [q6] fun c r s K => binK .add (r q6) I1 fun v0 => K [v0] s))))))))
 (.reg [q5] fun c r s K => binK .add (r q5) I1 fun v0 => K [v0] s))))))
 (.seq (.reg [q4] fun c r s K => K [tt] s)
 .ret)))), [(.tmp q4)], [q0, q1], [q7, q8, q9, q10, q12, q13, q14, q18, q19, q20, q21, q22, q23, q24, q25, q26, q27, q29, q30, q31, q32, q33, q34, q38, q39, q40, q41, q42, q43, q44, q45, q46, q47, q48, q49, q50, q51, q36, q37, q16, q17]⟩
/- attestor/attestorref32.SameGates -/
noncomputable def cf16 : HF := ⟨
(.seq (.reg [q2, q3, q4] fun c r s K => bxx s (r q0) fun v0 s => bxx s (r q1) fun v1 s => K [v0, v1, ff] s)
 (.seq (.seq (.reg [q40] fun c r s K => fad n0 (r q2) fun v0 => ld s v0 fun v1 => fad n0 (r q3) fun v2 => ld s v2 fun v3 => binK .neq v1 v3 fun v4 => jf v4 (fad n1 (r q2)) s fun v5 s => jf v4 (ld s v5) s fun v6 s => jf v4 (fad n1 (r q3)) s fun v7 s => jf v4 (ld s v7) s fun v8 s => jf v4 (binK .neq v6 v8) s fun v9 s => pck v4 tt v9 fun v10 => jf v10 (fad n2 (r q2)) s fun v11 s => jf v10 (ld s v11) s fun v12 s => jf v10 (fad n2 (r q3)) s fun v13 s => jf v10 (ld s v13) s fun v14 s => jf v10 (binK .neq v12 v14) s fun v15 s => pck v10 tt v15 fun v16 => jf v16 (fad n3 (r q2)) s fun v17 s => jf v16 (ld s v17) s fun v18 s => jf v16 (fad n3 (r q3)) s fun v19 s => jf v16 (ld s v19) s fun v20 s => jf v16 (binK .neq v18 v20) s fun v21 s => pck v16 tt v21 fun v22 => jf v22 (fad n4 (r q2)) s fun v23 s => jf v22 (ld s v23) s fun v24 s => jf v22 (lnS v24) s fun v25 s => jf v22 (fad n4 (r q3)) s fun v26 s => jf v22 (ld s v26) s fun v27 s => jf v22 (lnS v27) s fun v28 s => jf v22 (binK .neq v25 v28) s fun v29 s => pck v22 tt v29 fun v30 => K [v30] s)
 (.cond (.t q40) (.seq (.reg [q4] fun c r s K => K [ff] s)
 .ret)
 .skip))
 (.seq (.seq (.reg [q5] fun c r s K => K [I0] s)
 (.block n0 (.loop (.seq (.seq (.reg [q45] fun c r s K => fad n4 (r q2) fun v0 => ld s v0 fun v1 => lnS v1 fun v2 => binK .lss (r q5) v2 fun v3 => K [v3] s)
 (.cond (.t q45) .skip
 (.exit n0)))
 (.seq (.block n1 (.seq (.drw [q58] fun c r s K => (fun z m => fad n4 (r q2) fun v0 => dL z m n2 n1 s v0 fun v1 m s => ixs n11 v1 (r q5) fun v2 => dN z m n16 n15 s n11 v2 fun v3 m s => fad n4 (r q3) fun v4 => dL z m n64 n32 s v4 fun v5 m s => ixs n11 v5 (r q5) fun v6 => dN z m (nat_lit 512) (nat_lit 480) s n11 v6 fun v7 m s => h_op4_eqv (.flat [n1, n1, n1, n1, n1, n1, n1, n1, n1, n1, n1]) true (.c v3) (.c v7) c r s fun v8 s => K [v8] s) s.next mk0)
 (.cond (.t q58) (.seq (.reg [q4] fun c r s K => K [ff] s)
 .ret)
 .skip)))
 (.reg [q5] fun c r s K => binK .add (r q5) I1 fun v0 => K [v0] s))))))
 (.seq (.reg [q4] fun c r s K => K [tt] s)
 .ret)))), [(.tmp q4)], [q0, q1], [q6, q7, q8, q9, q10, q11, q12, q13, q14, q15, q16, q17, q18, q19, q20, q21, q22, q23, q24, q25, q26, q27, q28, q29, q30, q31, q32, q33, q34, q35, q36, q37, q38, q39, q41, q42, q43, q44, q48, q49, q50, q51, q52, q53, q54, q55, q56, q57, q46, q47]⟩
/- attestor/attestorref32.Groups -/
noncomputable def cf15 : HF := ⟨
(.seq (.reg [q2, q3] fun c r s K => K [(.sc zn), I0] s)
 (.seq (.seq (.reg [q11] fun c r s K => c n26 [(r q0)] s fun v0 s => binK .neq v0 I0 fun v1 => K [v1] s)
 (.cond (.t q11) (.seq (.reg [q2, q3] fun c r s K => K [(.sc zn), I1] s)
 .ret)
 .skip))
 (.seq (.reg [q4] fun c r s K => K [(.sc zn)] s)
 (.seq (.reg [q5] fun c r s K => K [I0] s)
 (.seq (.block n0 (.loop (.seq (.seq (.reg [q15] fun c r s K => lnS (r q0) fun v0 => binK .lss (r q5) v0 fun v1 => K [v1] s)
 (.cond (.t q15) .skip
 (.exit n0)))
 (.block n1 (.seq (.reg [q6] fun c r s K => K [I1] s)
 (.seq (.block n2 (.loop (.seq (.seq (.reg [q31] fun c r s K => binK .add (r q5) (r q6) fun v0 => lnS (r q0) fun v1 => binK .lss v0 v1 fun v2 => mt v2 (r q0) s fun v3 s => mt v2 (r q5) s fun v4 s => mt v2 (r q5) s fun v5 s => mt v2 (r q6) s fun v6 s => jt v2 (binK .add v5 v6) s fun v7 s => jt v2 (binK .add v7 I1) s fun v8 s => jn true v2 (fun j => h_op3_sliceS n5 (.c v3) (some (.c v4)) (some (.c v8)) none c r s j) s fun v9 s => jn true v2 (fun j => c n32 [v9] s j) s fun v10 s => pck v2 v10 ff fun v11 => K [v11] s)
 (.cond (.t q31) .skip
 (.exit n2)))
 (.block n3 (.reg [q6] fun c r s K => binK .add (r q6) I1 fun v0 => K [v0] s)))))
 (.seq (.reg [q7] fun c r s K => K [(.sc zn)] s)
 (.seq (.seq (.reg [q8] fun c r s K => K [I0] s)
 (.block n4 (.loop (.seq (.seq (.reg [q36] fun c r s K => binK .lss (r q8) (r q6) fun v0 => K [v0] s)
 (.cond (.t q36) .skip
 (.exit n4)))
 (.seq (.block n5 (.reg [q7] fun c r s K => binK .add (r q5) (r q8) fun v0 => h_op3_buildS n1 n1 [zi] [(n0, n1, (.c v0))] c r s fun v1 s => xA n1 n8 (r q7) v1 c r s fun v2 s => K [v2] s))
 (.reg [q8] fun c r s K => binK .add (r q8) I1 fun v0 => K [v0] s))))))
 (.seq (.reg [q4] fun c r s K => h_op3_buildS n1 n1 [zn] [(n0, n1, (.c (r q7)))] c r s fun v0 s => xA n1 n24 (r q4) v0 c r s fun v1 s => K [v1] s)
 (.reg [q5] fun c r s K => binK .add (r q5) (r q6) fun v0 => K [v0] s))))))))))
 (.seq (.reg [q2, q3] fun c r s K => K [(r q4), I0] s)
 .ret)))))), [(.tmp q2), (.tmp q3)], [q0], [q9, q10, q12, q13, q14, q16, q17, q18, q19, q20, q21, q22, q23, q24, q25, q26, q27, q28, q29, q30, q32, q33, q34, q35, q39, q40, q41, q42, q43, q44, q37, q38, q45, q46, q47, q48, q49, q50, q51, q52]⟩
/- attestor/attestorref32.room -/
noncomputable def cf32 : HF := ⟨
(.seq (.reg [q2] fun c r s K => K [ff] s)
 (.seq (.reg [q3, q4, q5, q6] fun c r s K => K [I0, I0, I0, I0] s)
 (.seq (.seq (.reg [q7] fun c r s K => K [I0] s)
 (.block n0 (.loop (.seq (.seq (.reg [q11] fun c r s K => lnS (r q0) fun v0 => binK .lss (r q7) v0 fun v1 => K [v1] s)
 (.cond (.t q11) .skip
 (.exit n0)))
 (.seq (.block n1 (.seq (.reg [q3] fun c r s K => ixs n5 (r q0) (r q7) fun v0 => fad n2 v0 fun v1 => ld s v1 fun v2 => binK .add (r q3) v2 fun v3 => K [v3] s)
 (.seq (.reg [q4] fun c r s K => ixs n5 (r q0) (r q7) fun v0 => fad n3 v0 fun v1 => ld s v1 fun v2 => binK .add (r q4) v2 fun v3 => K [v3] s)
 (.seq (.reg [q5] fun c r s K => ixs n5 (r q0) (r q7) fun v0 => fad n1 v0 fun v1 => ld s v1 fun v2 => binK .add (r q5) v2 fun v3 => K [v3] s)
 (.reg [q6] fun c r s K => ixs n5 (r q0) (r q7) fun v0 => fad n4 v0 fun v1 => ld s v1 fun v2 => lnS v2 fun v3 => binK .add (r q6) v3 fun v4 => K [v4] s)))))
 (.reg [q7] fun c r s K => binK .add (r q7) I1 fun v0 => K [v0] s))))))
 (.seq (.reg [q2] fun c r s K => binK .leq (r q3) I16 fun v0 => mt v0 (r q4) s fun v1 s => jt v0 (binK .leq v1 (i6 (nat_lit 20000))) s fun v2 s => pck v0 v2 ff fun v3 => mt v3 (r q5) s fun v4 s => jt v3 (binK .leq v4 (i6 (nat_lit 40000))) s fun v5 s => pck v3 v5 ff fun v6 => mt v6 (r q6) s fun v7 s => jt v6 (binK .leq v7 (i6 (nat_lit 8000))) s fun v8 s => pck v6 v8 ff fun v9 => K [v9] s)
 .ret)))), [(.tmp q2)], [q0], [q8, q9, q10, q14, q15, q16, q17, q18, q19, q20, q21, q22, q23, q24, q25, q26, q27, q28, q29, q30, q31, q32, q33, q34, q35, q36, q37, q38, q39, q40, q41, q42, q12, q13, q43, q44, q45, q46, q47, q48, q49, q50, q51, q52, q53, q54, q55, q56]⟩
/- attestor/aggregate.Groups -/
noncomputable def cf14 : HF := ⟨
(.seq (.reg [q2, q3] fun c r s K => K [(.sc zn), I0] s)
 (.seq (.seq (.reg [q9] fun c r s K => c n22 [(r q0)] s fun v0 s => nott v0 fun v1 => K [v1] s)
 (.cond (.t q9) (.seq (.reg [q2, q3] fun c r s K => K [(.sc zn), I1] s)
 .ret)
 .skip))
 (.seq (.reg [q4] fun c r s K => K [(.sc zn)] s)
 (.seq (.reg [q5] fun c r s K => K [I0] s)
 (.seq (.seq (.reg [q11, q12] fun c r s K => lnS (r q0) fun v0 => K [v0, I0] s)
 (.block n0 (.loop (.seq (.reg [q13] fun c r s K => binK .lss (r q12) (r q11) fun v0 => K [v0] s)
 (.seq (.cond (.t q13) .skip
 (.exit n0))
 (.seq (.block n1 (.seq (.reg [q6] fun c r s K => K [(r q12)] s)
 (.seq (.seq (.reg [q26] fun c r s K => binK .eql (r q6) (r q5) fun v0 => mf v0 (r q0) s fun v1 s => mf v0 (r q5) s fun v2 s => mf v0 (r q6) s fun v3 s => jf v0 (binK .add v3 I1) s fun v4 s => jn false v0 (fun j => h_op3_sliceS n5 (.c v1) (some (.c v2)) (some (.c v4)) none c r s j) s fun v5 s => jn false v0 (fun j => c n29 [v5] s j) s fun v6 s => jf v0 (nott v6) s fun v7 s => pck v0 tt v7 fun v8 => K [v8] s)
 (.cond (.t q26) (.seq (.reg [q5] fun c r s K => K [(r q6)] s)
 (.reg [q4] fun c r s K => h_op3_buildS n1 n1 [zn] [(n0, n1, (.c (.sc zn)))] c r s fun v0 s => xA n1 n24 (r q4) v0 c r s fun v1 s => K [v1] s))
 .skip))
 (.reg [] fun c r s K => lnS (r q4) fun v0 => binK .sub v0 I1 fun v1 => lnS (r q4) fun v2 => binK .sub v2 I1 fun v3 => ixs n1 (r q4) v3 fun v4 => ld s v4 fun v5 => h_op3_buildS n1 n1 [zi] [(n0, n1, (.c (r q6)))] c r s fun v6 s => xA n1 n8 v5 v6 c r s fun v7 s => ixs n1 (r q4) v1 fun v8 => sto s n1 v8 v7 fun s => K [] s))))
 (.reg [q12] fun c r s K => binK .add (r q12) I1 fun v0 => K [v0] s)))))))
 (.seq (.reg [q2, q3] fun c r s K => K [(r q4), I0] s)
 .ret)))))), [(.tmp q2), (.tmp q3)], [q0], [q7, q8, q10, q14, q15, q16, q17, q18, q19, q20, q21, q22, q23, q24, q25, q27, q28, q29, q30, q31, q32, q33, q34, q35, q36, q37, q38, q39, q40, q41, q42, q43, q44, q45, q46]⟩
/- attestor/attestorref32.Join -/
noncomputable def cf13 : HF := ⟨
(.seq (.reg [q2, q3] fun c r s K => alc s [zi, zi, zi, zi, zn] fun v0 s => K [v0, I0] s)
 (.seq (.seq (.reg [q16] fun c r s K => lnS (r q0) fun v0 => binK .eql v0 I0 fun v1 => mf v1 (r q0) s fun v2 s => jn false v1 (fun j => c n26 [v2] s j) s fun v3 s => jf v1 (binK .neq v3 I0) s fun v4 s => pck v1 tt v4 fun v5 => K [v5] s)
 (.cond (.t q16) (.seq (.reg [q3] fun c r s K => h_op3_build [zi, zi, zi, zi, zn] [] c r s fun v0 s => sto s n5 (r q2) v0 fun s => K [I1] s)
 .ret)
 .skip))
 (.seq (.seq (.reg [q20] fun c r s K => c n32 [(r q0)] s fun v0 s => nott v0 fun v1 => K [v1] s)
 (.cond (.t q20) (.seq (.reg [q3] fun c r s K => h_op3_build [zi, zi, zi, zi, zn] [] c r s fun v0 s => sto s n5 (r q2) v0 fun s => K [I9] s)
 .ret)
 .skip))
 (.seq (.reg [q4] fun c r s K => ixs n5 (r q0) I0 fun v0 => fad n0 v0 fun v1 => ld s v1 fun v2 => h_op3_build [zi, zi, zi, zi, zn] [(n0, n1, (.c v2))] c r s fun v3 s => alc s [zi, zi, zi, zi, zn] fun v4 s => sto s n5 v4 v3 fun s => K [v4] s)
 (.seq (.seq (.reg [q5] fun c r s K => K [I0] s)
 (.block n0 (.loop (.seq (.seq (.reg [q30] fun c r s K => lnS (r q0) fun v0 => binK .lss (r q5) v0 fun v1 => K [v1] s)
 (.cond (.t q30) .skip
 (.exit n0)))
 (.seq (.block n1 (.seq (.drw [] fun c r s K => (fun z m => fad n1 (r q4) fun v0 => dL z m n2 n1 s v0 fun v1 m s => ixs n5 (r q0) (r q5) fun v2 => fad n1 v2 fun v3 => dL z m n64 n60 s v3 fun v4 m s => binK .add v1 v4 fun v5 => fad n1 (r q4) fun v6 => dS z m (nat_lit 512) (nat_lit 511) s n1 v6 v5 fun _ m s => K [] s) s.next mk0)
 (.seq (.drw [] fun c r s K => (fun z m => fad n2 (r q4) fun v0 => dL z m n2 n1 s v0 fun v1 m s => ixs n5 (r q0) (r q5) fun v2 => fad n2 v2 fun v3 => dL z m n64 n60 s v3 fun v4 m s => binK .add v1 v4 fun v5 => fad n2 (r q4) fun v6 => dS z m (nat_lit 512) (nat_lit 511) s n1 v6 v5 fun _ m s => K [] s) s.next mk0)
 (.seq (.drw [] fun c r s K => (fun z m => fad n3 (r q4) fun v0 => dL z m n2 n1 s v0 fun v1 m s => ixs n5 (r q0) (r q5) fun v2 => fad n3 v2 fun v3 => dL z m n64 n60 s v3 fun v4 m s => binK .add v1 v4 fun v5 => fad n3 (r q4) fun v6 => dS z m (nat_lit 512) (nat_lit 511) s n1 v6 v5 fun _ m s => K [] s) s.next mk0)
 (.seq (.reg [q6] fun c r s K => K [I0] s)
 (.block n2 (.loop (.seq (.seq (.reg [q67] fun c r s K => ixs n5 (r q0) (r q5) fun v0 => fad n4 v0 fun v1 => ld s v1 fun v2 => lnS v2 fun v3 => binK .lss (r q6) v3 fun v4 => K [v4] s)
 (.cond (.t q67) .skip
 (.exit n2)))
 (.seq (.block n3 (.seq (.reg [q7] fun c r s K => ixs n5 (r q0) (r q5) fun v0 => fad n4 v0 fun v1 => ld s v1 fun v2 => ixs n11 v2 (r q6) fun v3 => lN s n11 v3 fun v4 => alc s [zb, zi, zi, zi, zi, zu, zu, zu, zu, zu, zi] fun v5 s => sto s n11 v5 v4 fun s => K [v5] s)
 (.seq (.seq (.reg [q8] fun c r s K => K [I0] s)
 (.block n4 (.loop (.seq (.seq (.reg [q79] fun c r s K => binK .lss (r q8) I4 fun v0 => K [v0] s)
 (.cond (.t q79) .skip
 (.exit n4)))
 (.seq (.block n5 (.reg [] fun c r s K => fad n1 (r q7) fun v0 => ixA n4 n1 v0 (r q8) fun v1 => ld s v1 fun v2 => c n33 [(r q0), (r q5), v2] s fun v3 s => fad n1 (r q7) fun v4 => ixA n4 n1 v4 (r q8) fun v5 => sto s n1 v5 v3 fun s => K [] s))
 (.reg [q8] fun c r s K => binK .add (r q8) I1 fun v0 => K [v0] s))))))
 (.reg [] fun c r s K => fad n4 (r q4) fun v0 => ld s v0 fun v1 => lN s n11 (r q7) fun v2 => h_op3_buildS n1 n11 [zb, zi, zi, zi, zi, zu, zu, zu, zu, zu, zi] [(n0, n11, (.c v2))] c r s fun v3 s => xA n11 n88 v1 v3 c r s fun v4 s => fad n4 (r q4) fun v5 => sto s n1 v5 v4 fun s => K [] s))))
 (.reg [q6] fun c r s K => binK .add (r q6) I1 fun v0 => K [v0] s))))))))))
 (.reg [q5] fun c r s K => binK .add (r q5) I1 fun v0 => K [v0] s))))))
 (.seq (.reg [q3] fun c r s K => lN s n5 (r q4) fun v0 => sto s n5 (r q2) v0 fun s => K [I0] s)
 .ret)))))), [(.cellN n5 q2), (.tmp q3)], [q0], [q9, q10, q11, q12, q13, q14, q15, q17, q18, q19, q21, q22, q23, q24, q25, q26, q27, q28, q29, q33, q34, q35, q36, q37, q38, q39, q40, q41, q42, q43, q44, q45, q46, q47, q48, q49, q50, q51, q52, q53, q54, q55, q56, q57, q58, q59, q60, q61, q62, q63, q64, q65, q66, q70, q71, q72, q73, q74, q75, q76, q77, q78, q82, q83, q84, q85, q86, q87, q88, q89, q90, q91, q80, q81, q92, q93, q94, q95, q96, q97, q68, q69, q31, q32, q98]⟩
/- attestor/attestorref32.Place -/
noncomputable def cf33 : HF := ⟨
(.seq (.reg [q6] fun c r s K => K [I0] s)
 (.seq (.reg [q7, q8] fun c r s K => K [I0, I0] s)
 (.seq (.seq (.reg [q9] fun c r s K => K [I0] s)
 (.block n0 (.loop (.seq (.seq (.reg [q17] fun c r s K => lnS (r q0) fun v0 => binK .lss (r q9) v0 fun v1 => K [v1] s)
 (.cond (.t q17) .skip
 (.exit n0)))
 (.seq (.block n1 (.seq (.reg [q7] fun c r s K => ixs n5 (r q0) (r q9) fun v0 => fad n2 v0 fun v1 => ld s v1 fun v2 => binK .add (r q7) v2 fun v3 => K [v3] s)
 (.reg [q8] fun c r s K => ixs n5 (r q0) (r q9) fun v0 => fad n3 v0 fun v1 => ld s v1 fun v2 => binK .add (r q8) v2 fun v3 => K [v3] s)))
 (.reg [q9] fun c r s K => binK .add (r q9) I1 fun v0 => K [v0] s))))))
 (.seq (.reg [q10, q11, q12] fun c r s K => binK .add (r q7) (r q8) fun v0 => K [I0, (r q7), v0] s)
 (.seq (.seq (.reg [q13] fun c r s K => K [I0] s)
 (.block n2 (.loop (.seq (.seq (.reg [q40] fun c r s K => binK .lss (r q13) (r q1) fun v0 => K [v0] s)
 (.cond (.t q40) .skip
 (.exit n2)))
 (.seq (.block n3 (.seq (.reg [q10] fun c r s K => ixs n5 (r q0) (r q13) fun v0 => fad n2 v0 fun v1 => ld s v1 fun v2 => binK .add (r q10) v2 fun v3 => K [v3] s)
 (.seq (.reg [q11] fun c r s K => ixs n5 (r q0) (r q13) fun v0 => fad n3 v0 fun v1 => ld s v1 fun v2 => binK .add (r q11) v2 fun v3 => K [v3] s)
 (.drw [q12] fun c r s K => (fun z m => ixs n5 (r q0) (r q13) fun v0 => fad n1 v0 fun v1 => dL z m n32 n30 s v1 fun v2 m s => binK .add (r q12) v2 fun v3 => ixs n5 (r q0) (r q13) fun v4 => fad n2 v4 fun v5 => dL z m (nat_lit 2048) (nat_lit 1920) s v5 fun v6 m s => binK .sub v3 v6 fun v7 => ixs n5 (r q0) (r q13) fun v8 => fad n3 v8 fun v9 => dL z m (nat_lit 131072) (nat_lit 122880) s v9 fun v10 m s => binK .sub v7 v10 fun v11 => K [v11] s) s.next mk0))))
 (.reg [q13] fun c r s K => binK .add (r q13) I1 fun v0 => K [v0] s))))))
 (.seq (.seq (.reg [q77] fun c r s K => binK .lss (r q2) I0 fun v0 => K [v0] s)
 (.cond (.t q77) (.seq (.reg [q6] fun c r s K => (fun v0 => K [v0] s) (.sc (.int .i64 (.negSucc n0))))
 .ret)
 .skip))
 (.seq (.seq (.reg [q84] fun c r s K => ixs n5 (r q0) (r q1) fun v0 => fad n2 v0 fun v1 => ld s v1 fun v2 => binK .lss (r q2) v2 fun v3 => K [v3] s)
 (.cond (.t q84) (.seq (.reg [q6] fun c r s K => binK .add (r q10) (r q2) fun v0 => K [v0] s)
 .ret)
 .skip))
 (.seq (.seq (.drw [q100] fun c r s K => (fun z m => ixs n5 (r q0) (r q1) fun v0 => fad n2 v0 fun v1 => dL z m n32 n30 s v1 fun v2 m s => ixs n5 (r q0) (r q1) fun v3 => fad n3 v3 fun v4 => dL z m (nat_lit 1024) (nat_lit 960) s v4 fun v5 m s => binK .add v2 v5 fun v6 => binK .lss (r q2) v6 fun v7 => K [v7] s) s.next mk0)
 (.cond (.t q100) (.seq (.reg [q6] fun c r s K => binK .add (r q11) (r q2) fun v0 => ixs n5 (r q0) (r q1) fun v1 => fad n2 v1 fun v2 => ld s v2 fun v3 => binK .sub v0 v3 fun v4 => K [v4] s)
 .ret)
 .skip))
 (.seq (.drw [q6] fun c r s K => (fun z m => binK .add (r q12) (r q2) fun v0 => ixs n5 (r q0) (r q1) fun v1 => fad n2 v1 fun v2 => dL z m n128 n120 s v2 fun v3 m s => binK .sub v0 v3 fun v4 => ixs n5 (r q0) (r q1) fun v5 => fad n3 v5 fun v6 => dL z m (nat_lit 8192) (nat_lit 7680) s v6 fun v7 m s => binK .sub v4 v7 fun v8 => K [v8] s) s.next mk0)
 .ret))))))))), [(.tmp q6)], [q0, q1, q2], [q14, q15, q16, q20, q21, q22, q23, q24, q25, q26, q27, q28, q29, q30, q31, q32, q33, q18, q19, q34, q35, q36, q37, q38, q39, q43, q44, q45, q46, q47, q48, q49, q50, q51, q52, q53, q54, q55, q56, q57, q58, q59, q60, q61, q62, q63, q64, q65, q66, q67, q68, q69, q70, q71, q72, q73, q74, q75, q41, q42, q76, q78, q79, q80, q81, q82, q83, q85, q86, q87, q88, q89, q90, q91, q92, q93, q94, q95, q96, q97, q98, q99, q101, q102, q103, q104, q105, q106, q107, q108, q109, q110, q111, q112, q113, q114, q115, q116, q117, q118, q119, q120, q121, q122, q123, q124]⟩
end Go.Proofs.YticfndhcbjcklaaDoor.Ev
