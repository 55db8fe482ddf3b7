/- Compiled functions of the translated program, and that each is what the compiler makes of it; no conditions. -/
import Derived.Test.YtlgedjkkodhdnadDoorEvC
import Derived.KernelRfl
namespace Go.Proofs.YtlgedjkkodhdnadDoor.Ev
set_option maxRecDepth 100000
set_option linter.unusedVariables false
/- attestor/attestorlaw33.StoreNil -/
noncomputable def cf3 : HF := ⟨
(.seq (.reg [q6] fun c r s K => K [ff] s)
 (.seq (.reg [q7] fun c r s K => K [(.sc .nilp)] s)
 (.seq (.seq (.reg [q16] fun c r s K => K [(r q0)] s)
 (.cond (.t q16) (.reg [q7] fun c r s K => h_op3_build [(.bool false), zn, (.lit (.map none)), zi, zi, zn, zu, zu, zi] [] c r s fun v0 s => bxx s v0 fun v1 s => K [v1] s)
 .skip))
 (.seq (.reg [] fun c r s K => c n4 [(r q7)] s fun v0 s => K [] s)
 (.seq (.reg [q8, q9] fun c r s K => h_op3_build [zi, zu, zu, zn, zn, zi, (.bool false)] [] c r s fun v0 s => c n5 [(r q7), (r q1), v0] s fun v1 s => xE n0 v1 c r s fun v2 s => xE n1 v1 c r s fun v3 s => K [v2, v3] s)
 (.seq (.reg [q10, q11] fun c r s K => h_op3_build [zi, zi, zi] [] c r s fun v0 s => c n6 [(r q7), (r q1), v0] s fun v1 s => xE n0 v1 c r s fun v2 s => xE n1 v1 c r s fun v3 s => K [v2, v3] s)
 (.seq (.reg [q12, q13] fun c r s K => c n7 [(r q7)] s fun v0 s => xE n0 v0 c r s fun v1 s => xE n1 v0 c r s fun v2 s => K [v1, v2] s)
 (.seq (.reg [q15] fun c r s K => c n8 [(r q7), (r q2)] s fun v0 s => xE n0 v0 c r s fun v1 s => xE n1 v0 c r s fun v2 s => alc s [zi, zu, zu, zn, zn, zi, (.bool false)] fun v3 s => sto s n7 v3 v1 fun s => K [v2] s)
 (.seq (.reg [q6] fun c r s K => binK .eql (r q8) I0 fun v0 => mt v0 (r q9) s fun v1 s => jt v0 (binK .eql v1 I10) s fun v2 s => pck v0 v2 ff fun v3 => mt v3 (r q10) s fun v4 s => jt v3 (lnS v4) s fun v5 s => jt v3 (binK .eql v5 I0) s fun v6 s => pck v3 v6 ff fun v7 => mt v7 (r q11) s fun v8 s => jt v7 (binK .eql v8 I10) s fun v9 s => pck v7 v9 ff fun v10 => mt v10 (r q12) s fun v11 s => jt v10 (lnS v11) s fun v12 s => jt v10 (binK .eql v12 I0) s fun v13 s => pck v10 v13 ff fun v14 => mt v14 (r q13) s fun v15 s => jt v14 (binK .eql v15 I0) s fun v16 s => pck v14 v16 ff fun v17 => mt v17 (r q15) s fun v18 s => jt v17 (binK .eql v18 I10) s fun v19 s => pck v17 v19 ff fun v20 => mt v20 (r q7) s fun v21 s => mt v20 (r q1) s fun v22 s => mt v20 (r q2) s fun v23 s => jn true v20 (fun j => c n9 [v21, v22, v23] s j) s fun v24 s => jt v20 (binK .eql v24 I10) s fun v25 s => pck v20 v25 ff fun v26 => mt v26 (r q7) s fun v27 s => mt v26 (r q1) s fun v28 s => mt v26 (r q2) s fun v29 s => jn true v26 (fun j => c n10 [v27, v28, v29] s j) s fun v30 s => jt v26 (binK .eql v30 I10) s fun v31 s => pck v26 v31 ff fun v32 => mt v32 (r q7) s fun v33 s => mt v32 (r q1) s fun v34 s => mt v32 (r q2) s fun v35 s => jn true v32 (fun j => c n11 [v33, v34, v35] s j) s fun v36 s => jt v32 (binK .eql v36 I10) s fun v37 s => pck v32 v37 ff fun v38 => mt v38 (r q7) s fun v39 s => jn true v38 (fun j => c n12 [v39] s j) s fun v40 s => jt v38 (lnS v40) s fun v41 s => jt v38 (binK .eql v41 I0) s fun v42 s => pck v38 v42 ff fun v43 => mt v43 (r q7) s fun v44 s => jn true v43 (fun j => h_op3_build [zu, zu] [] c r s j) s fun v45 s => jn true v43 (fun j => c n13 [v44, v45] s j) s fun v46 s => jt v43 (lnS v46) s fun v47 s => jt v43 (binK .eql v47 I0) s fun v48 s => pck v43 v48 ff fun v49 => mt v49 (r q7) s fun v50 s => jn true v49 (fun j => c n14 [v50] s j) s fun v51 s => jt v49 (binK .eql v51 I0) s fun v52 s => pck v49 v52 ff fun v53 => mt v53 (r q7) s fun v54 s => jn true v53 (fun j => c n15 [v54] s j) s fun v55 s => jt v53 (binK .eql v55 I0) s fun v56 s => pck v53 v56 ff fun v57 => mt v57 (r q7) s fun v58 s => jn true v57 (fun j => c n16 [v58] s j) s fun v59 s => jn true v57 (fun j => h_op4_eqv .ptr false (.c v59) (.c (.sc .nilp)) c r s j) s fun v60 s => pck v57 v60 ff fun v61 => jn true v61 (fun j => c n17 [] s j) s fun v62 s => pck v61 v62 ff fun v63 => K [v63] s)
 .ret))))))))), [(.tmp q6)], [q0, q1, q2], [q17, q18, q19, q20, q22, q23, q24, q25, q21, q26, q27, q29, q30, q31, q32, q28, q33, q34, q36, q37, q35, q38, q39, q41, q42, q43, q40, q44, q45, q14, q46, q47, q48, q49, q50, q51, q52, q53, q54, q55, q56, q57, q58, q59, q60, q61, q62, q63, q64, q65, q66, q67, q68, q69, q70, q71, q72, q73, q74, q75, q76, q77, q78, q79, q80, q81, q82, q83, q84, q85, q86, q87, q88, q89, q90, q91, q92, q93, q94, q95, q96, q97, q98, q99, q100, q101, q102, q103, q104, q105, q106, q107, q108, q109, q110, q111, q112, q113, q114, q115, q116, q117, q118, q119, q120, q121, q122, q123, q124, q125]⟩
/- attestor/attestorlaw33.awake -/
noncomputable def cf17 : HF := ⟨
(.seq (.reg [q0] fun c r s K => K [ff] s)
 (.seq (.reg [q1] fun c r s K => c n26 [] s fun v0 s => K [v0] s)
 (.seq (.reg [q2, q3] fun c r s K => h_op3_build [zu, zu] [(n0, n1, (.c U1)), (n1, n1, (.c U2))] c r s fun v0 s => h_op3_buildS n1 n1 [zu] [(n0, n1, (.c U7))] c r s fun v1 s => h_op3_buildS n1 n1 [zb] [(n0, n1, (.c B9))] c r s fun v2 s => h_op3_build [zi, zu, zu, zn, zn, zi, (.bool false)] [(n1, n2, (.c v0)), (n3, n1, (.c v1)), (n4, n1, (.c v2))] c r s fun v3 s => c n5 [(r q1), I5, v3] s fun v4 s => xE n0 v4 c r s fun v5 s => xE n1 v4 c r s fun v6 s => K [v5, v6] s)
 (.seq (.reg [q5] fun c r s K => h_op3_build [zu, zu] [(n0, n1, (.c U1)), (n1, n1, (.c U2))] c r s fun v0 s => h_op3_buildS n1 n1 [zu] [(n0, n1, (.c U7))] c r s fun v1 s => h_op3_buildS n1 n1 [zb] [(n0, n1, (.c B9))] c r s fun v2 s => h_op3_build [zi, zu, zu, zn, zn, zi, (.bool false)] [(n1, n2, (.c v0)), (n3, n1, (.c v1)), (n4, n1, (.c v2))] c r s fun v3 s => c n5 [(r q1), I5, v3] s fun v4 s => xE n0 v4 c r s fun v5 s => xE n1 v4 c r s fun v6 s => K [v6] s)
 (.seq (.reg [q6, q7, q8, q9] fun c r s K => c n9 [(r q1), I4, I1] s fun v0 s => c n9 [(r q1), I6, I2] s fun v1 s => c n9 [(r q1), I6, I1] s fun v2 s => c n11 [(r q1), I7, I1] s fun v3 s => K [v0, v1, v2, v3] s)
 (.seq (.reg [q10, q11] fun c r s K => c n7 [(r q1)] s fun v0 s => xE n0 v0 c r s fun v1 s => xE n1 v0 c r s fun v2 s => K [v1, v2] s)
 (.seq (.seq (.reg [q85] fun c r s K => binK .neq (r q2) I1 fun v0 => mf v0 (r q3) s fun v1 s => jf v0 (binK .neq v1 I0) s fun v2 s => pck v0 tt v2 fun v3 => mf v3 (r q5) s fun v4 s => jf v3 (binK .neq v4 I6) s fun v5 s => pck v3 tt v5 fun v6 => mf v6 (r q6) s fun v7 s => jf v6 (binK .neq v7 I1) s fun v8 s => pck v6 tt v8 fun v9 => mf v9 (r q7) s fun v10 s => jf v9 (binK .neq v10 I7) s fun v11 s => pck v9 tt v11 fun v12 => mf v12 (r q8) s fun v13 s => jf v12 (binK .neq v13 I0) s fun v14 s => pck v12 tt v14 fun v15 => mf v15 (r q9) s fun v16 s => jf v15 (binK .neq v16 I8) s fun v17 s => pck v15 tt v17 fun v18 => mf v18 (r q10) s fun v19 s => jf v18 (lnS v19) s fun v20 s => jf v18 (binK .neq v20 (i6 n60)) s fun v21 s => pck v18 tt v21 fun v22 => mf v22 (r q11) s fun v23 s => jf v22 (binK .neq v23 I0) s fun v24 s => pck v22 tt v24 fun v25 => mf v25 (r q1) s fun v26 s => jn false v25 (fun j => c n14 [v26] s j) s fun v27 s => jf v25 (binK .neq v27 I6) s fun v28 s => pck v25 tt v28 fun v29 => K [v29] s)
 (.cond (.t q85) (.seq (.reg [q0] fun c r s K => K [ff] s)
 .ret)
 .skip))
 (.seq (.reg [q12, q13] fun c r s K => h_op3_sliceS n1 (.c (r q10)) none (some (.c (i6 n59))) none c r s fun v0 s => c n27 [v0] s fun v1 s => xE n0 v1 c r s fun v2 s => xE n1 v1 c r s fun v3 s => K [v2, v3] s)
 (.seq (.reg [q0] fun c r s K => h_op4_eqv .ptr true (.c (r q12)) (.c (.sc .nilp)) c r s fun v0 s => mt v0 (r q13) s fun v1 s => jt v0 (binK .eql v1 I35) s fun v2 s => pck v0 v2 ff fun v3 => mt v3 (r q12) s fun v4 s => jn true v3 (fun j => c n15 [v4] s j) s fun v5 s => jt v3 (binK .eql v5 I1) s fun v6 s => pck v3 v6 ff fun v7 => mt v7 (r q12) s fun v8 s => jn true v7 (fun j => c n12 [v8] s j) s fun v9 s => jt v7 (lnS v9) s fun v10 s => jt v7 (binK .eql v10 I1) s fun v11 s => pck v7 v11 ff fun v12 => mt v12 (r q12) s fun v13 s => jn true v12 (fun j => c n12 [v13] s j) s fun v14 s => jt v12 (ixs n7 v14 I0) s fun v15 s => jt v12 (fad n6 v15) s fun v16 s => jt v12 (ld s v16) s fun v17 s => jt v12 (nott v17) s fun v18 s => pck v12 v18 ff fun v19 => K [v19] s)
 .ret))))))))), [(.tmp q0)], [], [q14, q16, q17, q18, q19, q20, q21, q15, q22, q23, q25, q26, q27, q28, q29, q30, q24, q31, q32, q4, q33, q34, q35, q36, q37, q38, q39, q40, q42, q43, q41, q44, q45, q46, q47, q48, q49, q50, q51, q52, q53, q54, q55, q56, q57, q58, q59, q60, q61, q62, q63, q64, q65, q66, q67, q68, q69, q70, q71, q72, q73, q74, q75, q76, q77, q78, q79, q80, q81, q82, q83, q84, q87, q88, q89, q86, q90, q91, q92, q93, q94, q95, q96, q97, q98, q99, q100, q101, q102, q103, q104, q105, q106, q107, q108, q109, q110, q111, q112, q113, q114, q115, q116]⟩
/- attestor/store.Recover -/
noncomputable def cf27 : HF := ⟨
(.seq (.reg [q2, q3] fun c r s K => K [(.sc .nilp), I0] s)
 (.seq (.reg [q4] fun c r s K => c n26 [] s fun v0 s => K [v0] s)
 (.seq (.reg [q5] fun c r s K => K [(r q0)] s)
 (.seq .skip
 (.seq (.block n0 (.loop (.seq (.seq (.reg [q17] fun c r s K => lnS (r q5) fun v0 => binK .geq v0 I13 fun v1 => K [v1] s)
 (.cond (.t q17) .skip
 (.exit n0)))
 (.block n1 (.seq (.drw [q6, q7] fun c r s K => (fun z m => ixs n1 (r q5) I0 fun v0 => dL z m n4 n3 s v0 fun v1 m s => cnv .i64 v1 fun v2 => h_op3_sliceS n1 (.c (r q5)) (some (.c I1)) (some (.c I5)) none c r s fun v3 s => dw3 m n64 n48 s (fun s q => c n34 [v3] s q) fun v4 m s => K [v2, v4] s) s.next mk0)
 (.seq (.seq (.reg [q34] fun c r s K => binK .lss (r q7) U8 fun v0 => mf v0 (r q7) s fun v1 s => mf v0 (r q5) s fun v2 s => jf v0 (lnS v2) s fun v3 s => jf v0 (binK .sub v3 I13) s fun v4 s => jf v0 (cnv .u64 v4) s fun v5 s => jf v0 (binK .gtr v1 v5) s fun v6 s => pck v0 tt v6 fun v7 => K [v7] s)
 (.cond (.t q34) (.exit n0)
 .skip))
 (.seq (.drw [q8, q9] fun c r s K => (fun z m => binK .add U5 (r q7) fun v0 => h_op3_sliceS n1 (.c (r q5)) (some (.c I5)) (some (.c v0)) none c r s fun v1 s => binK .add U5 (r q7) fun v2 => h_op3_sliceS n1 (.c (r q5)) (some (.c v2)) none none c r s fun v3 s => K [v1, v3] s) s.next mk0)
 (.seq (.reg [q10] fun c r s K => xC (r q4) c r s fun v0 s => fad n6 v0 fun v1 => lN s n2 v1 fun v2 => c n35 [v2, (r q6), (r q8)] s fun v3 s => alc s [zu, zu] fun v4 s => sto s n2 v4 v3 fun s => K [v4] s)
 (.seq (.drw [q11, q12] fun c r s K => (fun z m => h_op3_sliceS n1 (.c (r q8)) none (some (.c I8)) none c r s fun v0 s => dw3 m n4 n3 s (fun s q => c n34 [v0] s q) fun v1 m s => h_op3_sliceS n1 (.c (r q8)) (some (.c I8)) none none c r s fun v2 s => dw3 m n64 n63 s (fun s q => c n36 [(r q6), v2] s q) fun v3 m s => K [v1, v3] s) s.next mk0)
 (.seq (.block n2 (.seq (.seq (.drw [q57] fun c r s K => (fun z m => h_op3_sliceS n1 (.c (r q9)) none (some (.c I4)) none c r s fun v0 s => dw3 m n4 n3 s (fun s q => c n34 [v0] s q) fun v1 m s => h_op3_sliceS n1 (.c (r q9)) (some (.c I4)) (some (.c I8)) none c r s fun v2 s => dw3 m n32 n31 s (fun s q => c n34 [v2] s q) fun v3 m s => h_op3_build [zu, zu] [(n0, n1, (.c v1)), (n1, n1, (.c v3))] c r s fun v4 s => dN z m n128 n0 s n2 (r q10) fun v5 m s => h_op4_eqv (.flat [n1, n1]) true (.c v4) (.c v5) c r s fun v6 s => K [v6] s) s.next mk0)
 (.cond (.t q57) .skip
 (.seq (.reg [q57] fun c r s K => binK .gtr (r q11) (u6 (nat_lit 1099511627776)) fun v0 => K [v0] s)
 (.cond (.t q57) .skip
 (.reg [q57] fun c r s K => h_op5_ifaceEq false (.c (r q12)) (.c (.sc (.lit .nilIface))) c r s fun v0 s => K [v0] s)))))
 (.cond (.t q57) (.exit n0)
 .skip)))
 (.seq (.seq (.reg [q76] fun c r s K => cnv .i64 (r q11) fun v0 => c n19 [(r q4), v0, (r q12)] s fun v1 s => binK .neq v1 I0 fun v2 => K [v2] s)
 (.cond (.t q76) (.exit n0)
 .skip))
 (.reg [q5] fun c r s K => h_op3_sliceS n1 (.c (r q9)) (some (.c I8)) none none c r s fun v0 s => K [v0] s))))))))))))
 (.seq (.reg [] fun c r s K => c n4 [(r q4)] s fun v0 s => K [] s)
 (.seq (.reg [q2, q3] fun c r s K => lnS (r q0) fun v0 => lnS (r q5) fun v1 => binK .sub v0 v1 fun v2 => K [(r q4), v2] s)
 .ret))))))), [(.tmp q2), (.tmp q3)], [q0], [q13, q14, q15, q16, q18, q19, q20, q21, q22, q23, q24, q25, q26, q27, q28, q29, q30, q31, q32, q33, q35, q36, q37, q38, q39, q40, q41, q42, q43, q44, q45, q46, q47, q48, q49, q50, q51, q52, q53, q54, q55, q56, q58, q59, q60, q61, q62, q63, q64, q65, q66, q67, q68, q69, q70, q71, q72, q73, q74, q75, q77, q78, q79, q80, q81, q82, q83, q84, q85, q86]⟩
/- (*attestor/store.Store).do -/
noncomputable def cf19 : HF := ⟨
(.seq (.reg [q6] fun c r s K => K [I0] s)
 (.seq (.seq (.reg [q10] fun c r s K => c n18 [(r q0)] s fun v0 s => nott v0 fun v1 => K [v1] s)
 (.cond (.t q10) (.seq (.reg [q6] fun c r s K => K [I10] s)
 .ret)
 .skip))
 (.seq (.seq (.reg [q20] fun c r s K => xC (r q0) c r s fun v0 s => fad n4 v0 fun v1 => ld s v1 fun v2 => binK .lss (r q1) v2 fun v3 => mf v3 (r q1) s fun v4 s => jf v3 (binK .gtr v4 (i6 (nat_lit 1099511627776))) s fun v5 s => pck v3 tt v5 fun v6 => K [v6] s)
 (.cond (.t q20) (.seq (.reg [q6] fun c r s K => K [I1] s)
 .ret)
 .skip))
 (.seq (.seq (.reg [q7] fun c r s K => h_op5_invoke [(n54, n84), (n57, n96), (n65, n109)] (.c (r q2)) [(.c (r q0))] c r s fun v0 s => K [v0] s)
 (.seq (.reg [q25] fun c r s K => binK .neq (r q7) I0 fun v0 => K [v0] s)
 (.cond (.t q25) (.seq (.reg [q6] fun c r s K => K [(r q7)] s)
 .ret)
 .skip)))
 (.seq (.drw [] fun c r s K => (fun z m => dw3 m n4 n2 s (fun s q => h_op5_invoke [(n54, n83), (n57, n95), (n65, n108)] (.c (r q2)) [] c r s q) fun v0 m s => cnv .u64 (r q1) fun v1 => dw3 m n64 n54 s (fun s q => c n29 [(.sc zn), v1, I8] s q) fun v2 m s => h_op5_method "attestor/store.write" [n54, n57, n65] (.c (r q2)) c r s fun v3 s => h_op5_nilChk [("attestor/store.write", n54), ("attestor/store.write", n57), ("attestor/store.write", n65)] (.c v3) c r s fun v4 s => dw3 m (nat_lit 1024) (nat_lit 1022) s (fun s q => h_op5_invoke [(n54, n85), (n57, n97), (n65, n110)] (.c (r q2)) [(.c v2)] c r s q) fun v5 m s => dw3 m (nat_lit 2048) (nat_lit 2047) s (fun s q => c n28 [(r q0), v0, v5] s q) fun v6 m s => K [] s) s.next mk0)
 (.seq (.reg [] fun c r s K => xC (r q0) c r s fun v0 s => fad n4 v0 fun v1 => sto s n1 v1 (r q1) fun s => K [] s)
 (.seq (.reg [] fun c r s K => h_op5_invoke [(n54, n82), (n57, n94), (n65, n107)] (.c (r q2)) [(.c (r q0))] c r s fun v0 s => K [] s)
 (.seq (.reg [q6] fun c r s K => K [I0] s)
 .ret)))))))), [(.tmp q6)], [q0, q1, q2], [q8, q9, q11, q12, q13, q14, q15, q16, q17, q18, q19, q21, q22, q23, q24, q26, q27, q28, q29, q30, q31, q32, q33, q34, q35, q36, q37, q38, q39, q40, q41, q42, q43, q44, q45]⟩
/- (*attestor/store.marking).carry -/
noncomputable def cf107 : HF := ⟨
(.seq (.seq (.reg [q8] fun c r s K => xC (r q0) c r s fun v0 s => fad n1 v0 fun v1 => ld s v1 fun v2 => binK .eql v2 I4 fun v3 => K [v3] s)
 (.cond (.t q8) (.seq (.reg [] fun c r s K => xC (r q0) c r s fun v0 s => fad n0 v0 fun v1 => ld s v1 fun v2 => c n102 [(r q1), v2] s fun v3 s => K [] s)
 .ret)
 .skip))
 (.drw [] fun c r s K => (fun z m => xC (r q1) c r s fun v0 s => fad n2 v0 fun v1 => dL z m n8 n7 s v1 fun v2 m s => xC (r q0) c r s fun v3 s => fad n0 v3 fun v4 => dL z m n128 n112 s v4 fun v5 m s => dw3 m (nat_lit 256) (nat_lit 255) s (fun s q => h_op5_mapGet n1 [.nilp] false false (.c v2) (.c v5) c r s q) fun v6 m s => xC (r q0) c r s fun v7 s => fad n1 v7 fun v8 => dL z m (nat_lit 4096) (nat_lit 3584) s v8 fun v9 m s => binK .eql v9 I2 fun v10 => xC v6 c r s fun v11 s => fad n6 v11 fun v12 => dS z m (nat_lit 65536) (nat_lit 65535) s n1 v12 v10 fun _ m s => K [] s) s.next mk0)), [], [q0, q1], [q4, q5, q6, q7, q9, q10, q11, q12, q13, q14, q15, q16, q17, q18, q19, q20, q21, q22, q23, q24, q25, q26, q27, q28, q29, q30]⟩
/- (*attestor/store.Store).remove -/
noncomputable def cf102 : HF := ⟨
(.seq (.reg [q3] fun c r s K => bxx s (r q1) fun v0 s => K [v0] s)
 (.seq (.drw [] fun c r s K => (fun z m => xC (r q0) c r s fun v0 s => fad n2 v0 fun v1 => dL z m n8 n7 s v1 fun v2 m s => dL z m n16 n0 s (r q3) fun v3 m s => dw3 m n32 n31 s (fun s q => h_op5_mapDel n1 (.c v2) (.c v3) c r s q) fun _ m s => K [] s) s.next mk0)
 (.reg [] fun c r s K => xC (r q0) c r s fun v0 s => fad n1 v0 fun v1 => ld s v1 fun v2 => h_op4_makeFunc n105 [(.c (r q3))] c r s fun v3 s => c n104 [v2, v3] s fun v4 s => xC (r q0) c r s fun v5 s => fad n1 v5 fun v6 => sto s n1 v6 v4 fun s => K [] s))), [], [q0, q1], [q4, q5, q6, q7, q8, q9, q10, q11, q12, q13, q14, q15, q16, q17]⟩
/- slices.DeleteFunc[[]int,int] -/
noncomputable def cf104 : HF := ⟨
(.seq (.reg [q4] fun c r s K => K [(.sc zn)] s)
 (.seq (.reg [q5] fun c r s K => c n106 [(r q0), (r q1)] s fun v0 s => K [v0] s)
 (.seq (.seq (.reg [q12] fun c r s K => binK .eql (r q5) (.sc (.int .i64 (.negSucc n0))) fun v0 => K [v0] s)
 (.cond (.t q12) (.seq (.reg [q4] fun c r s K => K [(r q0)] s)
 .ret)
 .skip))
 (.seq (.seq (.reg [q6] fun c r s K => binK .add (r q5) I1 fun v0 => K [v0] s)
 (.block n0 (.loop (.seq (.seq (.reg [q19] fun c r s K => lnS (r q0) fun v0 => binK .lss (r q6) v0 fun v1 => K [v1] s)
 (.cond (.t q19) .skip
 (.exit n0)))
 (.seq (.block n1 (.seq (.reg [q7] fun c r s K => ixs n1 (r q0) (r q6) fun v0 => ld s v0 fun v1 => K [v1] s)
 (.seq (.reg [q29] fun c r s K => h_op4_callV (.c (r q1)) [(.c (r q7))] c r s fun v0 s => nott v0 fun v1 => K [v1] s)
 (.cond (.t q29) (.seq (.reg [] fun c r s K => ixs n1 (r q0) (r q5) fun v0 => sto s n1 v0 (r q7) fun s => K [] s)
 (.reg [q5] fun c r s K => binK .add (r q5) I1 fun v0 => K [v0] s))
 .skip))))
 (.reg [q6] fun c r s K => binK .add (r q6) I1 fun v0 => K [v0] s))))))
 (.seq (.reg [] fun c r s K => h_op3_sliceS n1 (.c (r q0)) (some (.c (r q5))) none none c r s fun v0 s => h_op5_clearS n1 [zi] (.c v0) c r s fun _ s => K [] s)
 (.seq (.reg [q4] fun c r s K => h_op3_sliceS n1 (.c (r q0)) none (some (.c (r q5))) none c r s fun v0 s => K [v0] s)
 .ret)))))), [(.tmp q4)], [q0, q1], [q8, q9, q10, q11, q13, q14, q15, q16, q17, q18, q22, q23, q24, q25, q26, q27, q28, q30, q31, q32, q33, q34, q35, q20, q21, q36, q37, q38, q39, q40, q41]⟩
/- slices.IndexFunc[[]int,int] -/
noncomputable def cf106 : HF := ⟨
(.seq (.reg [q4] fun c r s K => K [I0] s)
 (.seq (.seq (.reg [q7, q8] fun c r s K => lnS (r q0) fun v0 => K [v0, I0] s)
 (.block n0 (.loop (.seq (.reg [q9] fun c r s K => binK .lss (r q8) (r q7) fun v0 => K [v0] s)
 (.seq (.cond (.t q9) .skip
 (.exit n0))
 (.seq (.block n1 (.seq (.reg [q5] fun c r s K => K [(r q8)] s)
 (.seq (.reg [q16] fun c r s K => ixs n1 (r q0) (r q5) fun v0 => ld s v0 fun v1 => h_op4_callV (.c (r q1)) [(.c v1)] c r s fun v2 s => K [v2] s)
 (.cond (.t q16) (.seq (.reg [q4] fun c r s K => K [(r q5)] s)
 .ret)
 .skip))))
 (.reg [q8] fun c r s K => binK .add (r q8) I1 fun v0 => K [v0] s)))))))
 (.seq (.reg [q4] fun c r s K => (fun v0 => K [v0] s) (.sc (.int .i64 (.negSucc n0))))
 .ret))), [(.tmp q4)], [q0, q1], [q6, q10, q11, q12, q13, q14, q15, q17, q18]⟩
/- (*attestor/store.Store).remove$1 -/
noncomputable def cf105 : HF := ⟨
(.seq (.reg [q3] fun c r s K => K [ff] s)
 (.seq (.reg [q3] fun c r s K => ld s (r q1) fun v0 => binK .eql (r q0) v0 fun v1 => K [v1] s)
 .ret)), [(.tmp q3)], [q0, q1], [q4, q5, q6]⟩
/- (*attestor/store.pruning).carry -/
noncomputable def cf94 : HF := ⟨
(.seq (.reg [q2, q3] fun c r s K => bxx s (r q0) fun v0 s => bxx s (r q1) fun v1 s => K [v0, v1] s)
 (.seq (.seq (.reg [q14] fun c r s K => ld s (r q2) fun v0 => xC v0 c r s fun v1 s => fad n0 v1 fun v2 => fad n2 v2 fun v3 => ld s v3 fun v4 => binK .gtr v4 I0 fun v5 => K [v5] s)
 (.cond (.t q14) (.seq (.reg [q4] fun c r s K => ld s (r q3) fun v0 => h_op4_makeFunc n98 [(.c (r q3)), (.c (r q2))] c r s fun v1 s => c n23 [v0, v1] s fun v2 s => K [v2] s)
 (.reg [] fun c r s K => ld s (r q2) fun v0 => ld s (r q3) fun v1 => c n99 [v0, v1, (r q4), I0] s fun v2 s => K [] s))
 .skip))
 (.seq (.reg [q5] fun c r s K => h_op5_mapNew  c r s fun v0 s => K [v0] s)
 (.seq (.seq (.reg [q26, q27, q28] fun c r s K => ld s (r q3) fun v0 => xC v0 c r s fun v1 s => fad n1 v1 fun v2 => ld s v2 fun v3 => lnS v3 fun v4 => K [v3, v4, I0] s)
 (.block n0 (.loop (.seq (.reg [q29] fun c r s K => binK .lss (r q28) (r q27) fun v0 => K [v0] s)
 (.seq (.cond (.t q29) .skip
 (.exit n0))
 (.seq (.block n1 (.seq (.reg [q7] fun c r s K => ixs n1 (r q26) (r q28) fun v0 => ld s v0 fun v1 => K [v1] s)
 (.reg [] fun c r s K => ld s (r q3) fun v0 => xC v0 c r s fun v1 s => fad n2 v1 fun v2 => ld s v2 fun v3 => h_op5_mapGet n1 [.nilp] false false (.c v3) (.c (r q7)) c r s fun v4 s => xC v4 c r s fun v5 s => fad n1 v5 fun v6 => lN s n2 v6 fun v7 => h_op3_buildS n1 n1 [zi] [(n0, n1, (.c (r q7)))] c r s fun v8 s => h_op4_bad n102 c r s fun _ s => xE n0 (r q45) c r s fun v10 s => xA n1 n8 v10 v8 c r s fun v11 s => xE n1 (r q45) c r s fun v12 s => h_op4_bad n102 c r s fun _ s => K [] s)))
 (.reg [q28] fun c r s K => binK .add (r q28) I1 fun v0 => K [v0] s)))))))
 (.seq (.seq (.reg [q50] fun c r s K => c n100 [(r q5)] s fun v0 s => K [v0] s)
 (.block n2 (.rng n94 n0 (.t q50) [q51] (.reg [q8] fun c r s K => K [(r q51)] s)
 (.block n3 (.drw [] fun c r s K => (fun z m => dL z m n1 n0 s (r q2) fun v0 m s => dL z m n2 n0 s (r q3) fun v1 m s => dL z m n8 n0 s (r q2) fun v2 m s => xC v2 c r s fun v3 s => fad n0 v3 fun v4 => fad n0 v4 fun v5 => dL z m n128 n120 s v5 fun v6 m s => dw3 m (nat_lit 256) (nat_lit 255) s (fun s q => c n99 [v0, v1, (r q8), v6] s q) fun v7 m s => K [] s) s.next mk0)))))
 (.drw [] fun c r s K => (fun z m => dL z m n1 n0 s (r q2) fun v0 m s => dL z m n2 n0 s (r q3) fun v1 m s => dL z m n4 n0 s (r q3) fun v2 m s => xC v2 c r s fun v3 s => fad n1 v3 fun v4 => dL z m n32 n28 s v4 fun v5 m s => dw3 m n64 n60 s (fun s q => c n25 [v5] s q) fun v6 m s => dL z m n128 n0 s (r q2) fun v7 m s => xC v7 c r s fun v8 s => fad n0 v8 fun v9 => fad n1 v9 fun v10 => dL z m (nat_lit 2048) (nat_lit 1920) s v10 fun v11 m s => dw3 m (nat_lit 4096) (nat_lit 4095) s (fun s q => c n99 [v0, v1, v6, v11] s q) fun v12 m s => K [] s) s.next mk0)))))), [], [q0, q1], [q9, q10, q11, q12, q13, q15, q16, q17, q18, q19, q20, q21, q22, q23, q24, q25, q30, q31, q32, q33, q34, q35, q36, q37, q38, q39, q40, q41, q43, q44, q42, q46, q47, q48, q49, q52, q53, q54, q55, q56, q57, q58, q59, q60, q61, q62, q63, q64, q65, q66, q67, q68, q69, q70, q71, q72, q73]⟩
/- slices.Clone[[]int,int] -/
noncomputable def cf25 : HF := ⟨
(.seq (.reg [q2] fun c r s K => K [(.sc zn)] s)
 (.seq (.seq (.reg [q4] fun c r s K => h_op4_eqv .slice false (.c (r q0)) (.c (.sc zn)) c r s fun v0 s => K [v0] s)
 (.cond (.t q4) (.seq (.reg [q2] fun c r s K => K [(.sc zn)] s)
 .ret)
 .skip))
 (.seq (.reg [q2] fun c r s K => h_op3_buildS n0 n1 [] [] c r s fun v0 s => xA n1 n8 v0 (r q0) c r s fun v1 s => K [v1] s)
 .ret))), [(.tmp q2)], [q0], [q3, q5, q6, q7]⟩
/- maps.Values[map[attestor/api.Digest][]int,attestor/api.Digest,[]int] -/
noncomputable def cf100 : HF := ⟨
(.seq (.reg [q1, q2] fun c r s K => bxx s (r q0) fun v0 s => K [v0, (.sc (.lit .nilFunc))] s)
 (.seq (.reg [q2] fun c r s K => h_op4_makeFunc n103 [(.c (r q1))] c r s fun v0 s => K [v0] s)
 .ret)), [(.tmp q2)], [q0], [q3]⟩
/- maps.Values[map[attestor/api.Digest][]int,attestor/api.Digest,[]int]$1 -/
noncomputable def cf103 : HF := ⟨
(.seq (.reg [] fun c r s K => ld s (r q1) fun v0 => h_op4_bad n102 c r s fun _ s => K [] s)
 (.block n0 (.loop (.seq (.reg [q8] fun c r s K => h_op4_bad n102 c r s fun _ s => xE n0 (r q7) c r s fun v1 s => K [v1] s)
 (.seq (.cond (.t q8) .skip
 (.exit n0))
 (.block n1 (.seq (.reg [q4] fun c r s K => h_op4_bad n102 c r s fun _ s => xE n1 (r q9) c r s fun v1 s => K [v1] s)
 (.seq (.reg [q14] fun c r s K => h_op4_callV (.c (r q0)) [(.c (r q4))] c r s fun v0 s => nott v0 fun v1 => K [v1] s)
 (.cond (.t q14) .ret
 .skip))))))))), [], [q0, q1], [q5, q10, q11, q12, q13]⟩
/- (*attestor/store.pruning).less -/
noncomputable def cf99 : HF := ⟨
(.seq (.reg [q8] fun c r s K => lnS (r q2) fun v0 => K [v0] s)
 (.seq (.reg [q13, q14, q15] fun c r s K => lnS (r q2) fun v0 => K [(r q2), v0, I0] s)
 (.block n0 (.loop (.seq (.reg [q16] fun c r s K => binK .lss (r q15) (r q14) fun v0 => K [v0] s)
 (.seq (.cond (.t q16) .skip
 (.exit n0))
 (.seq (.block n1 (.seq (.reg [q10] fun c r s K => ixs n1 (r q13) (r q15) fun v0 => ld s v0 fun v1 => K [v1] s)
 (.seq (.seq (.reg [q21] fun c r s K => binK .leq (r q8) (r q3) fun v0 => K [v0] s)
 (.cond (.t q21) .ret
 .skip))
 (.seq (.reg [q31] fun c r s K => xC (r q1) c r s fun v0 s => fad n2 v0 fun v1 => ld s v1 fun v2 => h_op5_mapGet n1 [.nilp] false false (.c v2) (.c (r q10)) c r s fun v3 s => xC v3 c r s fun v4 s => fad n6 v4 fun v5 => ld s v5 fun v6 => nott v6 fun v7 => K [v7] s)
 (.cond (.t q31) (.seq (.reg [] fun c r s K => c n102 [(r q1), (r q10)] s fun v0 s => K [] s)
 (.seq (.reg [] fun c r s K => xC (r q0) c r s fun v0 s => fad n3 v0 fun v1 => ld s v1 fun v2 => h_op3_buildS n1 n1 [zi] [(n0, n1, (.c (r q10)))] c r s fun v3 s => xA n1 n8 v2 v3 c r s fun v4 s => xC (r q0) c r s fun v5 s => fad n3 v5 fun v6 => sto s n1 v6 v4 fun s => K [] s)
 (.reg [q8] fun c r s K => binK .sub (r q8) I1 fun v0 => K [v0] s)))
 .skip)))))
 (.reg [q15] fun c r s K => binK .add (r q15) I1 fun v0 => K [v0] s)))))))), [], [q0, q1, q2, q3], [q11, q12, q17, q18, q19, q20, q22, q23, q24, q25, q26, q27, q28, q29, q30, q32, q33, q34, q35, q36, q37, q38, q39, q40, q41, q42, q43, q44, q45, q46, q47]⟩
/- (*attestor/store.Store).where -/
noncomputable def cf23 : HF := ⟨
(.seq (.reg [q4] fun c r s K => K [(.sc zn)] s)
 (.seq (.reg [q5] fun c r s K => K [(.sc zn)] s)
 (.seq (.seq (.reg [q11, q12, q13] fun c r s K => xC (r q0) c r s fun v0 s => fad n1 v0 fun v1 => ld s v1 fun v2 => lnS v2 fun v3 => K [v2, v3, I0] s)
 (.block n0 (.loop (.seq (.reg [q14] fun c r s K => binK .lss (r q13) (r q12) fun v0 => K [v0] s)
 (.seq (.cond (.t q14) .skip
 (.exit n0))
 (.seq (.block n1 (.seq (.reg [q7] fun c r s K => ixs n1 (r q11) (r q13) fun v0 => ld s v0 fun v1 => K [v1] s)
 (.seq (.reg [q24] fun c r s K => xC (r q0) c r s fun v0 s => fad n2 v0 fun v1 => ld s v1 fun v2 => h_op5_mapGet n1 [.nilp] false false (.c v2) (.c (r q7)) c r s fun v3 s => h_op4_callV (.c (r q1)) [(.c v3)] c r s fun v4 s => K [v4] s)
 (.cond (.t q24) (.reg [q5] fun c r s K => h_op3_buildS n1 n1 [zi] [(n0, n1, (.c (r q7)))] c r s fun v0 s => xA n1 n8 (r q5) v0 c r s fun v1 s => K [v1] s)
 .skip))))
 (.reg [q13] fun c r s K => binK .add (r q13) I1 fun v0 => K [v0] s)))))))
 (.seq (.reg [q4] fun c r s K => K [(r q5)] s)
 .ret)))), [(.tmp q4)], [q0, q1], [q8, q9, q10, q15, q16, q17, q18, q19, q20, q21, q22, q23, q25, q26, q27, q28, q29, q30]⟩
/- (*attestor/store.pruning).carry$1 -/
noncomputable def cf98 : HF := ⟨
(.seq (.reg [q4] fun c r s K => K [ff] s)
 (.seq (.drw [q4] fun c r s K => (fun z m => xC (r q0) c r s fun v0 s => fad n6 v0 fun v1 => dL z m n8 n7 s v1 fun v2 m s => nott v2 fun v3 => jnD true v3 (fun jj => jj (r q0) m s) m s fun v4 m s => jnD true v3 (fun jj => xC v4 c r s fun v s => jj v m s) m s fun v5 m s => jnD true v3 (fun jj => fad n5 v5 fun v => jj v m s) m s fun v6 m s => jnD true v3 (fun jj => dL z m (nat_lit 512) (nat_lit 511) s v6 jj) m s fun v7 m s => jnD true v3 (fun jj => dL z m (nat_lit 1024) n63 s (r q1) jj) m s fun v8 m s => jnD true v3 (fun jj => xC v8 c r s fun v s => jj v m s) m s fun v9 m s => jnD true v3 (fun jj => fad n4 v9 fun v => jj v m s) m s fun v10 m s => jnD true v3 (fun jj => dL z m (nat_lit 8192) (nat_lit 7231) s v10 jj) m s fun v11 m s => jnD true v3 (fun jj => dL z m (nat_lit 16384) n63 s (r q2) jj) m s fun v12 m s => jnD true v3 (fun jj => xC v12 c r s fun v s => jj v m s) m s fun v13 m s => jnD true v3 (fun jj => fad n0 v13 fun v => jj v m s) m s fun v14 m s => jnD true v3 (fun jj => fad n2 v14 fun v => jj v m s) m s fun v15 m s => jnD true v3 (fun jj => dL z m (nat_lit 262144) (nat_lit 245823) s v15 jj) m s fun v16 m s => jnD true v3 (fun jj => binK .sub v11 v16 fun v => jj v m s) m s fun v17 m s => jnD true v3 (fun jj => binK .lss v7 v17 fun v => jj v m s) m s fun v18 m s => pck v3 v18 ff fun v19 => K [v19] s) s.next mk0)
 .ret)), [(.tmp q4)], [q0, q1, q2], [q5, q6, q7, q8, q9, q10, q11, q12, q13, q14, q15, q16, q17, q18, q19, q20, q21, q22, q23, q24, q25, q26]⟩
/- (*attestor/store.putting).carry -/
noncomputable def cf82 : HF := ⟨
(.seq (.reg [] fun c r s K => xC (r q1) c r s fun v0 s => fad n3 v0 fun v1 => ld s v1 fun v2 => binK .add v2 I1 fun v3 => xC (r q1) c r s fun v4 s => fad n3 v4 fun v5 => sto s n1 v5 v3 fun s => K [] s)
 (.seq (.reg [q4] fun c r s K => xC (r q0) c r s fun v0 s => fad n0 v0 fun v1 => lN s n7 v1 fun v2 => c n22 [v2] s fun v3 s => alc s [zi, zu, zu, zn, zn, zi, (.bool false)] fun v4 s => sto s n7 v4 v3 fun s => K [v4] s)
 (.seq (.drw [] fun c r s K => (fun z m => xC (r q1) c r s fun v0 s => fad n3 v0 fun v1 => dL z m n8 n7 s v1 fun v2 m s => xC (r q1) c r s fun v3 s => fad n4 v3 fun v4 => dL z m n128 n112 s v4 fun v5 m s => fad n0 (r q4) fun v6 => dS z m (nat_lit 512) (nat_lit 511) s n1 v6 v2 fun _ m s => fad n5 (r q4) fun v8 => dS z m (nat_lit 2048) (nat_lit 2047) s n1 v8 v5 fun _ m s => fad n6 (r q4) fun v10 => dS z m (nat_lit 8192) (nat_lit 8191) s n1 v10 ff fun _ m s => K [] s) s.next mk0)
 (.seq (.drw [] fun c r s K => (fun z m => xC (r q1) c r s fun v0 s => fad n2 v0 fun v1 => dL z m n8 n7 s v1 fun v2 m s => fad n0 (r q4) fun v3 => dL z m n32 n16 s v3 fun v4 m s => dw3 m n64 n63 s (fun s q => h_op5_mapSet n1 (.c v2) (.c v4) (.c (r q4)) c r s q) fun _ m s => K [] s) s.next mk0)
 (.drw [] fun c r s K => (fun z m => xC (r q1) c r s fun v0 s => fad n1 v0 fun v1 => dL z m n16 n14 s v1 fun v2 m s => fad n0 (r q4) fun v3 => dL z m n64 n32 s v3 fun v4 m s => dw1 m n128 (fun q => h_op3_buildS n1 n1 [zi] [(n0, n1, (.c v4))] c r s q) fun v5 m s => dw5 z m (nat_lit 256) (nat_lit 254) s (.more (.more (.append n1 n8 (.c v2) (.c v5)))) r (fun s q => xA n1 n8 v2 v5 c r s q) fun v6 m s => xC (r q1) c r s fun v7 s => fad n1 v7 fun v8 => dS z m (nat_lit 2048) (nat_lit 2047) s n1 v8 v6 fun _ m s => K [] s) s.next mk0))))), [], [q0, q1], [q5, q6, q7, q8, q9, q10, q11, q12, q13, q14, q15, q16, q17, q18, q19, q20, q21, q22, q23, q24, q25, q26, q27, q28, q29, q30, q31, q32, q33, q34, q35, q36, q37, q38, q39, q40, q41, q42, q43, q44]⟩
/- attestor/store.own -/
noncomputable def cf22 : HF := ⟨
(.seq (.reg [q1, q2] fun c r s K => bxx s (r q0) fun v0 s => alc s [zi, zu, zu, zn, zn, zi, (.bool false)] fun v1 s => K [v0, v1] s)
 (.seq (.drw [] fun c r s K => (fun z m => fad n3 (r q1) fun v0 => dL z m n2 n1 s v0 fun v1 m s => dw3 m n4 n3 s (fun s q => c n32 [v1] s q) fun v2 m s => fad n4 (r q1) fun v3 => dL z m n16 n8 s v3 fun v4 m s => dw3 m n32 n31 s (fun s q => c n33 [v4] s q) fun v5 m s => fad n3 (r q1) fun v6 => dS z m n128 n127 s n1 v6 v2 fun _ m s => fad n4 (r q1) fun v8 => dS z m (nat_lit 512) (nat_lit 511) s n1 v8 v5 fun _ m s => K [] s) s.next mk0)
 (.seq (.reg [] fun c r s K => lN s n7 (r q1) fun v0 => sto s n7 (r q2) v0 fun s => K [] s)
 .ret))), [(.cellN n7 q2)], [q0], [q3, q4, q5, q6, q7, q8, q9, q10, q11]⟩
/- slices.Clone[[]byte,byte] -/
noncomputable def cf33 : HF := ⟨
(.seq (.reg [q2] fun c r s K => K [(.sc zn)] s)
 (.seq (.seq (.reg [q4] fun c r s K => h_op4_eqv .slice false (.c (r q0)) (.c (.sc zn)) c r s fun v0 s => K [v0] s)
 (.cond (.t q4) (.seq (.reg [q2] fun c r s K => K [(.sc zn)] s)
 .ret)
 .skip))
 (.seq (.reg [q2] fun c r s K => h_op3_buildS n0 n1 [] [] c r s fun v0 s => xA n1 n1 v0 (r q0) c r s fun v1 s => K [v1] s)
 .ret))), [(.tmp q2)], [q0], [q3, q5, q6, q7]⟩
/- slices.Clone[[]uint64,uint64] -/
noncomputable def cf32 : HF := ⟨
(.seq (.reg [q2] fun c r s K => K [(.sc zn)] s)
 (.seq (.seq (.reg [q4] fun c r s K => h_op4_eqv .slice false (.c (r q0)) (.c (.sc zn)) c r s fun v0 s => K [v0] s)
 (.cond (.t q4) (.seq (.reg [q2] fun c r s K => K [(.sc zn)] s)
 .ret)
 .skip))
 (.seq (.reg [q2] fun c r s K => h_op3_buildS n0 n1 [] [] c r s fun v0 s => xA n1 n8 v0 (r q0) c r s fun v1 s => K [v1] s)
 .ret))), [(.tmp q2)], [q0], [q3, q5, q6, q7]⟩
/- (*attestor/store.Store).append -/
noncomputable def cf28 : HF := ⟨
(.seq (.reg [] fun c r s K => xC (r q0) c r s fun v0 s => fad n6 v0 fun v1 => lN s n2 v1 fun v2 => c n35 [v2, (r q1), (r q2)] s fun v3 s => xC (r q0) c r s fun v4 s => fad n6 v4 fun v5 => sto s n2 v5 v3 fun s => K [] s)
 (.seq (.reg [] fun c r s K => xC (r q0) c r s fun v0 s => fad n5 v0 fun v1 => ld s v1 fun v2 => cnv .u8 (r q1) fun v3 => h_op3_buildS n1 n1 [zb] [(n0, n1, (.c v3))] c r s fun v4 s => xA n1 n1 v2 v4 c r s fun v5 s => lnS (r q2) fun v6 => cnv .u64 v6 fun v7 => c n29 [v5, v7, I4] s fun v8 s => xC (r q0) c r s fun v9 s => fad n5 v9 fun v10 => sto s n1 v10 v8 fun s => K [] s)
 (.seq (.reg [] fun c r s K => xC (r q0) c r s fun v0 s => fad n5 v0 fun v1 => ld s v1 fun v2 => xA n1 n1 v2 (r q2) c r s fun v3 s => xC (r q0) c r s fun v4 s => fad n5 v4 fun v5 => sto s n1 v5 v3 fun s => K [] s)
 (.drw [] fun c r s K => (fun z m => xC (r q0) c r s fun v0 s => fad n5 v0 fun v1 => dL z m n16 n14 s v1 fun v2 m s => xC (r q0) c r s fun v3 s => fad n6 v3 fun v4 => ixA n2 n1 v4 I0 fun v5 => dL z m (nat_lit 512) (nat_lit 480) s v5 fun v6 m s => dw3 m (nat_lit 1024) (nat_lit 1022) s (fun s q => c n29 [v2, v6, I4] s q) fun v7 m s => xC (r q0) c r s fun v8 s => fad n6 v8 fun v9 => ixA n2 n1 v9 I1 fun v10 => dL z m (nat_lit 32768) (nat_lit 30720) s v10 fun v11 m s => dw3 m (nat_lit 65536) (nat_lit 65534) s (fun s q => c n29 [v7, v11, I4] s q) fun v12 m s => xC (r q0) c r s fun v13 s => fad n5 v13 fun v14 => dS z m (nat_lit 524288) (nat_lit 524287) s n1 v14 v12 fun _ m s => K [] s) s.next mk0)))), [], [q0, q1, q2], [q6, q7, q8, q9, q10, q11, q12, q13, q14, q15, q16, q17, q18, q19, q20, q21, q22, q23, q24, q25, q26, q27, q28, q29, q30, q31, q32, q33, q34, q35, q36, q37, q38, q39, q40, q41, q42, q43, q44, q45, q46, q47, q48, q49, q50, q51, q52, q53, q54, q55, q56, q57, q58]⟩
/- (*attestor/store.marking).write -/
noncomputable def cf110 : HF := ⟨
(.seq (.reg [q4] fun c r s K => K [(.sc zn)] s)
 (.seq (.reg [q4] fun c r s K => xC (r q0) c r s fun v0 s => fad n0 v0 fun v1 => ld s v1 fun v2 => cnv .u64 v2 fun v3 => c n29 [(r q1), v3, I4] s fun v4 s => K [v4] s)
 .ret)), [(.tmp q4)], [q0, q1], [q5, q6, q7, q8, q9, q10, q11]⟩
/- (*attestor/store.pruning).write -/
noncomputable def cf97 : HF := ⟨
(.seq (.reg [q4] fun c r s K => K [(.sc zn)] s)
 (.seq (.drw [q1] fun c r s K => (fun z m => xC (r q0) c r s fun v0 s => fad n0 v0 fun v1 => fad n0 v1 fun v2 => dL z m n32 n30 s v2 fun v3 m s => cnv .u64 v3 fun v4 => dw3 m n128 n127 s (fun s q => c n29 [(r q1), v4, I4] s q) fun v5 m s => xC (r q0) c r s fun v6 s => fad n0 v6 fun v7 => fad n1 v7 fun v8 => dL z m (nat_lit 4096) (nat_lit 3840) s v8 fun v9 m s => cnv .u64 v9 fun v10 => dw3 m (nat_lit 16384) (nat_lit 16383) s (fun s q => c n29 [v5, v10, I4] s q) fun v11 m s => K [v11] s) s.next mk0)
 (.seq (.reg [q4] fun c r s K => xC (r q0) c r s fun v0 s => fad n0 v0 fun v1 => fad n2 v1 fun v2 => ld s v2 fun v3 => cnv .u64 v3 fun v4 => c n29 [(r q1), v4, I8] s fun v5 s => K [v5] s)
 .ret))), [(.tmp q4)], [q0, q1], [q5, q6, q7, q8, q9, q10, q11, q12, q13, q14, q15, q16, q17, q18, q19, q20, q21, q22, q23, q24, q25, q26, q27]⟩
/- (*attestor/store.putting).write -/
noncomputable def cf85 : HF := ⟨
(.seq (.reg [q4] fun c r s K => K [(.sc zn)] s)
 (.seq (.drw [q1] fun c r s K => (fun z m => xC (r q0) c r s fun v0 s => fad n0 v0 fun v1 => fad n1 v1 fun v2 => ixA n2 n1 v2 I0 fun v3 => dL z m n64 n62 s v3 fun v4 m s => dw3 m n128 n127 s (fun s q => c n29 [(r q1), v4, I4] s q) fun v5 m s => xC (r q0) c r s fun v6 s => fad n0 v6 fun v7 => fad n1 v7 fun v8 => ixA n2 n1 v8 I1 fun v9 => dL z m (nat_lit 8192) (nat_lit 7936) s v9 fun v10 m s => dw3 m (nat_lit 16384) (nat_lit 16383) s (fun s q => c n29 [v5, v10, I4] s q) fun v11 m s => K [v11] s) s.next mk0)
 (.seq (.reg [q1] fun c r s K => xC (r q0) c r s fun v0 s => fad n0 v0 fun v1 => fad n3 v1 fun v2 => ld s v2 fun v3 => lnS v3 fun v4 => cnv .u8 v4 fun v5 => h_op3_buildS n1 n1 [zb] [(n0, n1, (.c v5))] c r s fun v6 s => xA n1 n1 (r q1) v6 c r s fun v7 s => K [v7] s)
 (.seq (.seq (.reg [q36, q37, q38] fun c r s K => xC (r q0) c r s fun v0 s => fad n0 v0 fun v1 => fad n3 v1 fun v2 => ld s v2 fun v3 => lnS v3 fun v4 => K [v3, v4, I0] s)
 (.block n0 (.loop (.seq (.reg [q39] fun c r s K => binK .lss (r q38) (r q37) fun v0 => K [v0] s)
 (.seq (.cond (.t q39) .skip
 (.exit n0))
 (.seq (.block n1 (.seq (.reg [q6] fun c r s K => ixs n1 (r q36) (r q38) fun v0 => ld s v0 fun v1 => K [v1] s)
 (.reg [q1] fun c r s K => c n29 [(r q1), (r q6), I4] s fun v0 s => K [v0] s)))
 (.reg [q38] fun c r s K => binK .add (r q38) I1 fun v0 => K [v0] s)))))))
 (.seq (.reg [q4] fun c r s K => xC (r q0) c r s fun v0 s => fad n0 v0 fun v1 => fad n4 v1 fun v2 => ld s v2 fun v3 => xA n1 n1 (r q1) v3 c r s fun v4 s => K [v4] s)
 .ret))))), [(.tmp q4)], [q0, q1], [q7, q8, q9, q10, q11, q12, q13, q14, q15, q16, q17, q18, q19, q20, q21, q22, q23, q24, q25, q26, q27, q28, q29, q30, q31, q32, q33, q34, q35, q40, q41, q42, q43, q44, q45, q46, q47, q48, q49, q50, q51, q52]⟩
/- attestor/store.number -/
noncomputable def cf29 : HF := ⟨
(.seq (.reg [q6] fun c r s K => K [(.sc zn)] s)
 (.seq (.seq (.reg [q8, q9] fun c r s K => K [(r q2), I0] s)
 (.block n0 (.loop (.seq (.reg [q10] fun c r s K => binK .lss (r q9) (r q8) fun v0 => K [v0] s)
 (.seq (.cond (.t q10) .skip
 (.exit n0))
 (.seq (.block n1 (.seq (.reg [q7] fun c r s K => K [(r q9)] s)
 (.reg [q0] fun c r s K => binK .mul I8 (r q7) fun v0 => xS false (r q1) v0 c r s fun v1 s => cnv .u8 v1 fun v2 => h_op3_buildS n1 n1 [zb] [(n0, n1, (.c v2))] c r s fun v3 s => xA n1 n1 (r q0) v3 c r s fun v4 s => K [v4] s)))
 (.reg [q9] fun c r s K => binK .add (r q9) I1 fun v0 => K [v0] s)))))))
 (.seq (.reg [q6] fun c r s K => K [(r q0)] s)
 .ret))), [(.tmp q6)], [q0, q1, q2], [q11, q12, q13, q14, q15, q16, q17, q18, q19, q20, q21]⟩
/- (*attestor/store.marking).kind -/
noncomputable def cf108 : HF := ⟨
(.seq (.reg [q2] fun c r s K => K [I0] s)
 (.seq (.reg [q2] fun c r s K => xC (r q0) c r s fun v0 s => fad n1 v0 fun v1 => ld s v1 fun v2 => K [v2] s)
 .ret)), [(.tmp q2)], [q0], [q3, q4, q5, q6]⟩
/- (*attestor/store.pruning).kind -/
noncomputable def cf95 : HF := ⟨
(.seq (.reg [q2] fun c r s K => K [I0] s)
 (.seq (.reg [q2] fun c r s K => K [I5] s)
 .ret)), [(.tmp q2)], [q0], []⟩
/- (*attestor/store.putting).kind -/
noncomputable def cf83 : HF := ⟨
(.seq (.reg [q2] fun c r s K => K [I0] s)
 (.seq (.reg [q2] fun c r s K => K [I1] s)
 .ret)), [(.tmp q2)], [q0], []⟩
/- (*attestor/store.marking).possible -/
noncomputable def cf109 : HF := ⟨
(.seq (.reg [q4] fun c r s K => K [I0] s)
 (.seq (.drw [q5, q6] fun c r s K => (fun z m => xC (r q1) c r s fun v0 s => fad n2 v0 fun v1 => dL z m n8 n7 s v1 fun v2 m s => xC (r q0) c r s fun v3 s => fad n0 v3 fun v4 => dL z m n128 n112 s v4 fun v5 m s => dw3 m (nat_lit 256) (nat_lit 255) s (fun s q => h_op5_mapGet n1 [.nilp] false true (.c v2) (.c v5) c r s q) fun v6 m s => xE n0 v6 c r s fun v7 s => xE n1 v6 c r s fun v8 s => K [v7, v8] s) s.next mk0)
 (.seq (.block n0 (.seq (.reg [q19] fun c r s K => nott (r q6) fun v0 => K [v0] s)
 (.cond (.t q19) (.seq (.reg [q4] fun c r s K => K [I7] s)
 .ret)
 (.seq (.drw [q22] fun c r s K => (fun z m => xC (r q5) c r s fun v0 s => fad n6 v0 fun v1 => dL z m n8 n7 s v1 fun v2 m s => xC (r q0) c r s fun v3 s => fad n1 v3 fun v4 => dL z m n128 n112 s v4 fun v5 m s => binK .eql v5 I3 fun v6 => h_op4_eqv .bool true (.c v2) (.c v6) c r s fun v7 s => K [v7] s) s.next mk0)
 (.cond (.t q22) (.seq (.reg [q4] fun c r s K => K [I8] s)
 .ret)
 .skip)))))
 (.seq (.reg [q4] fun c r s K => K [I0] s)
 .ret)))), [(.tmp q4)], [q0, q1], [q8, q9, q10, q11, q12, q13, q14, q15, q16, q7, q17, q18, q20, q21, q23, q24, q25, q26, q27, q28, q29, q30, q31, q32]⟩
/- (*attestor/store.pruning).possible -/
noncomputable def cf96 : HF := ⟨
(.seq (.reg [q4] fun c r s K => K [I0] s)
 (.seq (.seq (.reg [q29] fun c r s K => xC (r q0) c r s fun v0 s => fad n0 v0 fun v1 => fad n0 v1 fun v2 => ld s v2 fun v3 => c n101 [v3, (i6 (nat_lit 256))] s fun v4 s => nott v4 fun v5 => mf v5 (r q0) s fun v6 s => jn false v5 (fun j => xC v6 c r s j) s fun v7 s => jf v5 (fad n0 v7) s fun v8 s => jf v5 (fad n1 v8) s fun v9 s => jf v5 (ld s v9) s fun v10 s => jn false v5 (fun j => c n101 [v10, (i6 (nat_lit 256))] s j) s fun v11 s => jf v5 (nott v11) s fun v12 s => pck v5 tt v12 fun v13 => mf v13 (r q0) s fun v14 s => jn false v13 (fun j => xC v14 c r s j) s fun v15 s => jf v13 (fad n0 v15) s fun v16 s => jf v13 (fad n2 v16) s fun v17 s => jf v13 (ld s v17) s fun v18 s => jn false v13 (fun j => c n101 [v18, (i6 (nat_lit 1099511627776))] s j) s fun v19 s => jf v13 (nott v19) s fun v20 s => pck v13 tt v20 fun v21 => K [v21] s)
 (.cond (.t q29) (.seq (.reg [q4] fun c r s K => K [I1] s)
 .ret)
 .skip))
 (.seq (.reg [q4] fun c r s K => K [I0] s)
 .ret))), [(.tmp q4)], [q0, q1], [q5, q6, q7, q8, q9, q10, q11, q12, q13, q14, q15, q16, q17, q18, q19, q20, q21, q22, q23, q24, q25, q26, q27, q28]⟩
/- attestor/store.within -/
noncomputable def cf101 : HF := ⟨
(.seq (.reg [q4] fun c r s K => K [ff] s)
 (.seq (.reg [q4] fun c r s K => binK .geq (r q0) I0 fun v0 => mt v0 (r q0) s fun v1 s => mt v0 (r q1) s fun v2 s => jt v0 (binK .leq v1 v2) s fun v3 s => pck v0 v3 ff fun v4 => K [v4] s)
 .ret)), [(.tmp q4)], [q0, q1], [q5, q6, q7, q8, q9, q10, q11]⟩
/- (*attestor/store.putting).possible -/
noncomputable def cf84 : HF := ⟨
(.seq (.reg [q2, q4] fun c r s K => bxx s (r q0) fun v0 s => K [v0, I0] s)
 (.seq (.block n0 (.seq (.reg [q5] fun c r s K => ld s (r q2) fun v0 => xC v0 c r s fun v1 s => fad n0 v1 fun v2 => fad n3 v2 fun v3 => ld s v3 fun v4 => lnS v4 fun v5 => binK .gtr v5 I16 fun v6 => jf v6 (ld s (r q2)) s fun v7 s => jn false v6 (fun j => xC v7 c r s j) s fun v8 s => jf v6 (fad n0 v8) s fun v9 s => jf v6 (fad n4 v9) s fun v10 s => jf v6 (ld s v10) s fun v11 s => jf v6 (lnS v11) s fun v12 s => jf v6 (binK .gtr v12 (i6 (nat_lit 1048576))) s fun v13 s => pck v6 tt v13 fun v14 => jf v14 (ld s (r q2)) s fun v15 s => jn false v14 (fun j => xC v15 c r s j) s fun v16 s => jf v14 (fad n0 v16) s fun v17 s => jf v14 (fad n1 v17) s fun v18 s => jn false v14 (fun j => h_op3_sliceA n2 n1 (.c v18) none none none c r s j) s fun v19 s => jn false v14 (fun j => c n86 [v19] s j) s fun v20 s => jf v14 (nott v20) s fun v21 s => pck v14 tt v21 fun v22 => jf v22 (ld s (r q2)) s fun v23 s => jn false v22 (fun j => xC v23 c r s j) s fun v24 s => jf v22 (fad n0 v24) s fun v25 s => jf v22 (fad n3 v25) s fun v26 s => jf v22 (ld s v26) s fun v27 s => jn false v22 (fun j => c n86 [v27] s j) s fun v28 s => jf v22 (nott v28) s fun v29 s => pck v22 tt v29 fun v30 => K [v30] s)
 (.cond (.t q5) (.seq (.reg [q4] fun c r s K => K [I1] s)
 .ret)
 (.seq (.reg [q40] fun c r s K => h_op4_makeFunc n87 [(.c (r q2))] c r s fun v0 s => c n23 [(r q1), v0] s fun v1 s => lnS v1 fun v2 => binK .gtr v2 I0 fun v3 => K [v3] s)
 (.cond (.t q40) (.seq (.reg [q4] fun c r s K => K [I6] s)
 .ret)
 (.seq (.reg [q46] fun c r s K => xC (r q1) c r s fun v0 s => fad n1 v0 fun v1 => ld s v1 fun v2 => lnS v2 fun v3 => binK .geq v3 (i6 (nat_lit 256)) fun v4 => K [v4] s)
 (.cond (.t q46) (.seq (.reg [q4] fun c r s K => K [I9] s)
 .ret)
 .skip)))))))
 (.seq (.reg [q4] fun c r s K => K [I0] s)
 .ret))), [(.tmp q4)], [q0, q1], [q6, q7, q8, q9, q10, q11, q12, q13, q14, q15, q16, q17, q18, q19, q20, q21, q22, q23, q24, q25, q26, q27, q28, q29, q30, q31, q32, q33, q34, q35, q36, q37, q38, q39, q41, q42, q43, q44, q45, q47, q48, q49, q50, q51, q52]⟩
/- (*attestor/store.putting).possible$1 -/
noncomputable def cf87 : HF := ⟨
(.seq (.reg [q3] fun c r s K => K [ff] s)
 (.seq (.drw [q3] fun c r s K => (fun z m => xC (r q0) c r s fun v0 s => dN z m n4 n3 s n7 v0 fun v1 m s => dL z m n8 n0 s (r q1) fun v2 m s => xC v2 c r s fun v3 s => fad n0 v3 fun v4 => dN z m n64 n56 s n7 v4 fun v5 m s => dw3 m n128 n127 s (fun s q => c n88 [v1, v5] s q) fun v6 m s => K [v6] s) s.next mk0)
 .ret)), [(.tmp q3)], [q0, q1], [q4, q5, q6, q7, q8, q9, q10, q11]⟩
/- attestor/store.twins -/
noncomputable def cf88 : HF := ⟨
(.seq (.reg [q2, q3, q4] fun c r s K => bxx s (r q0) fun v0 s => bxx s (r q1) fun v1 s => K [v0, v1, ff] s)
 (.seq (.reg [q4] fun c r s K => fad n1 (r q2) fun v0 => lN s n2 v0 fun v1 => fad n1 (r q3) fun v2 => lN s n2 v2 fun v3 => h_op4_eqv (.flat [n1, n1]) false (.c v1) (.c v3) c r s fun v4 s => jt v4 (fad n3 (r q2)) s fun v5 s => jt v4 (ld s v5) s fun v6 s => jt v4 (fad n3 (r q3)) s fun v7 s => jt v4 (ld s v7) s fun v8 s => jn true v4 (fun j => c n91 [v6, v8] s j) s fun v9 s => pck v4 v9 ff fun v10 => jt v10 (fad n4 (r q2)) s fun v11 s => jt v10 (ld s v11) s fun v12 s => jt v10 (fad n4 (r q3)) s fun v13 s => jt v10 (ld s v13) s fun v14 s => jn true v10 (fun j => c n92 [v12, v14] s j) s fun v15 s => pck v10 v15 ff fun v16 => K [v16] s)
 .ret)), [(.tmp q4)], [q0, q1], [q5, q6, q7, q8, q9, q10, q11, q12, q13, q14, q15, q16, q17, q18, q19, q20, q21, q22, q23]⟩
/- bytes.Equal -/
noncomputable def cf92 : HF := ⟨
(.seq (.reg [q4] fun c r s K => K [ff] s)
 (.seq (.reg [q4] fun c r s K => h_op5_strOf (.c (r q0)) c r s fun v0 s => h_op5_strOf (.c (r q1)) c r s fun v1 s => h_op4_eqv .str false (.c v0) (.c v1) c r s fun v2 s => K [v2] s)
 .ret)), [(.tmp q4)], [q0, q1], [q5, q6, q7, q8, q9]⟩
/- slices.Equal[[]uint64,uint64] -/
noncomputable def cf91 : HF := ⟨
(.seq (.reg [q4] fun c r s K => K [ff] s)
 (.seq (.seq (.reg [q10] fun c r s K => lnS (r q0) fun v0 => lnS (r q1) fun v1 => binK .neq v0 v1 fun v2 => K [v2] s)
 (.cond (.t q10) (.seq (.reg [q4] fun c r s K => K [ff] s)
 .ret)
 .skip))
 (.seq (.seq (.reg [q12, q13] fun c r s K => lnS (r q0) fun v0 => K [v0, I0] s)
 (.block n0 (.loop (.seq (.reg [q14] fun c r s K => binK .lss (r q13) (r q12) fun v0 => K [v0] s)
 (.seq (.cond (.t q14) .skip
 (.exit n0))
 (.seq (.block n1 (.seq (.reg [q5] fun c r s K => K [(r q13)] s)
 (.seq (.drw [q24] fun c r s K => (fun z m => ixs n1 (r q0) (r q5) fun v0 => dL z m n8 n7 s v0 fun v1 m s => ixs n1 (r q1) (r q5) fun v2 => dL z m n128 n112 s v2 fun v3 m s => binK .neq v1 v3 fun v4 => K [v4] s) s.next mk0)
 (.cond (.t q24) (.seq (.reg [q4] fun c r s K => K [ff] s)
 .ret)
 .skip))))
 (.reg [q13] fun c r s K => binK .add (r q13) I1 fun v0 => K [v0] s)))))))
 (.seq (.reg [q4] fun c r s K => K [tt] s)
 .ret)))), [(.tmp q4)], [q0, q1], [q6, q7, q8, q9, q11, q15, q16, q17, q18, q19, q20, q21, q22, q23, q25]⟩
/- attestor/store.narrow -/
noncomputable def cf86 : HF := ⟨
(.seq (.reg [q2] fun c r s K => K [ff] s)
 (.seq (.reg [q2] fun c r s K => c n89 [(r q0), (.sc (.fn n90))] s fun v0 s => nott v0 fun v1 => K [v1] s)
 .ret)), [(.tmp q2)], [q0], [q3, q4, q5]⟩
/- attestor/store.narrow$1 -/
noncomputable def cf90 : HF := ⟨
(.seq (.reg [q2] fun c r s K => K [ff] s)
 (.seq (.reg [q2] fun c r s K => xS false (r q0) U32 c r s fun v0 s => binK .neq v0 U0 fun v1 => K [v1] s)
 .ret)), [(.tmp q2)], [q0], [q3, q4, q5]⟩
/- slices.ContainsFunc[[]uint64,uint64] -/
noncomputable def cf89 : HF := ⟨
(.seq (.reg [q4] fun c r s K => K [ff] s)
 (.seq (.reg [q4] fun c r s K => c n93 [(r q0), (r q1)] s fun v0 s => binK .geq v0 I0 fun v1 => K [v1] s)
 .ret)), [(.tmp q4)], [q0, q1], [q5, q6, q7, q8]⟩
/- slices.IndexFunc[[]uint64,uint64] -/
noncomputable def cf93 : HF := ⟨
(.seq (.reg [q4] fun c r s K => K [I0] s)
 (.seq (.seq (.reg [q7, q8] fun c r s K => lnS (r q0) fun v0 => K [v0, I0] s)
 (.block n0 (.loop (.seq (.reg [q9] fun c r s K => binK .lss (r q8) (r q7) fun v0 => K [v0] s)
 (.seq (.cond (.t q9) .skip
 (.exit n0))
 (.seq (.block n1 (.seq (.reg [q5] fun c r s K => K [(r q8)] s)
 (.seq (.reg [q16] fun c r s K => ixs n1 (r q0) (r q5) fun v0 => ld s v0 fun v1 => h_op4_callV (.c (r q1)) [(.c v1)] c r s fun v2 s => K [v2] s)
 (.cond (.t q16) (.seq (.reg [q4] fun c r s K => K [(r q5)] s)
 .ret)
 .skip))))
 (.reg [q8] fun c r s K => binK .add (r q8) I1 fun v0 => K [v0] s)))))))
 (.seq (.reg [q4] fun c r s K => (fun v0 => K [v0] s) (.sc (.int .i64 (.negSucc n0))))
 .ret))), [(.tmp q4)], [q0, q1], [q6, q10, q11, q12, q13, q14, q15, q17, q18]⟩
/- (*attestor/store.Store).usable -/
noncomputable def cf18 : HF := ⟨
(.seq (.reg [q2] fun c r s K => K [ff] s)
 (.seq (.reg [q2] fun c r s K => h_op4_eqv .ptr true (.c (r q0)) (.c (.sc .nilp)) c r s fun v0 s => mt v0 (r q0) s fun v1 s => jn true v0 (fun j => xC v1 c r s j) s fun v2 s => jt v0 (fad n0 v2) s fun v3 s => jt v0 (ld s v3) s fun v4 s => pck v0 v4 ff fun v5 => K [v5] s)
 .ret)), [(.tmp q2)], [q0], [q3, q4, q5, q6, q7, q8, q9, q10]⟩
/- attestor/store.read -/
noncomputable def cf36 : HF := ⟨
(.seq (.reg [q4] fun c r s K => K [(.sc (.lit .nilIface))] s)
 (.seq (.seq (.reg [q7] fun c r s K => K [(r q0)] s)
 (.block n0 (.seq (.reg [q8] fun c r s K => binK .eql (r q7) I1 fun v0 => K [v0] s)
 (.cond (.t q8) (.seq (.seq (.reg [q23] fun c r s K => lnS (r q1) fun v0 => binK .lss v0 I9 fun v1 => mf v1 (r q1) s fun v2 s => jf v1 (lnS v2) s fun v3 s => jf v1 (binK .sub v3 I9) s fun v4 s => mf v1 (r q1) s fun v5 s => jf v1 (ixs n1 v5 I8) s fun v6 s => jf v1 (ld s v6) s fun v7 s => jf v1 (cnv .i64 v7) s fun v8 s => jf v1 (binK .mul I4 v8) s fun v9 s => jf v1 (binK .lss v4 v9) s fun v10 s => pck v1 tt v10 fun v11 => K [v11] s)
 (.cond (.t q23) (.seq (.reg [q4] fun c r s K => K [(.sc (.lit .nilIface))] s)
 .ret)
 .skip))
 (.seq (.drw [q5] fun c r s K => (fun z m => h_op3_sliceS n1 (.c (r q1)) none (some (.c I4)) none c r s fun v0 s => dw3 m n4 n3 s (fun s q => c n34 [v0] s q) fun v1 m s => h_op3_sliceS n1 (.c (r q1)) (some (.c I4)) (some (.c I8)) none c r s fun v2 s => dw3 m n32 n31 s (fun s q => c n34 [v2] s q) fun v3 m s => h_op3_build [zu, zu] [(n0, n1, (.c v1)), (n1, n1, (.c v3))] c r s fun v4 s => h_op3_build [zi, zu, zu, zn, zn, zi, (.bool false)] [(n1, n2, (.c v4))] c r s fun v5 s => dw1 m (nat_lit 256) (fun q => alc s [zi, zu, zu, zn, zn, zi, (.bool false)] q) fun v6 m s => dS z m (nat_lit 512) (nat_lit 511) s n7 v6 v5 fun _ m s => K [v6] s) s.next mk0)
 (.seq (.reg [q6] fun c r s K => h_op3_sliceS n1 (.c (r q1)) (some (.c I9)) none none c r s fun v0 s => K [v0] s)
 (.seq (.seq (.reg [q36, q37] fun c r s K => ixs n1 (r q1) I8 fun v0 => ld s v0 fun v1 => K [v1, B0] s)
 (.block n1 (.loop (.seq (.reg [q38] fun c r s K => binK .lss (r q37) (r q36) fun v0 => K [v0] s)
 (.seq (.cond (.t q38) .skip
 (.exit n1))
 (.seq (.block n2 (.seq (.drw [] fun c r s K => (fun z m => fad n3 (r q5) fun v0 => dL z m n2 n1 s v0 fun v1 m s => h_op3_sliceS n1 (.c (r q6)) none (some (.c I4)) none c r s fun v2 s => dw3 m n16 n12 s (fun s q => c n34 [v2] s q) fun v3 m s => dw1 m n32 (fun q => h_op3_buildS n1 n1 [zu] [(n0, n1, (.c v3))] c r s q) fun v4 m s => dw5 z m n64 n63 s (.more (.more (.append n1 n8 (.c v1) (.c v4)))) r (fun s q => xA n1 n8 v1 v4 c r s q) fun v5 m s => fad n3 (r q5) fun v6 => dS z m (nat_lit 256) (nat_lit 255) s n1 v6 v5 fun _ m s => K [] s) s.next mk0)
 (.reg [q6] fun c r s K => h_op3_sliceS n1 (.c (r q6)) (some (.c I4)) none none c r s fun v0 s => K [v0] s)))
 (.reg [q37] fun c r s K => binK .add (r q37) B1 fun v0 => K [v0] s)))))))
 (.seq (.reg [] fun c r s K => fad n4 (r q5) fun v0 => sto s n1 v0 (r q6) fun s => K [] s)
 (.seq (.reg [q4] fun c r s K => lN s n7 (r q5) fun v0 => h_op3_build [zi, zu, zu, zn, zn, zi, (.bool false)] [(n0, n7, (.c v0))] c r s fun v1 s => bxx s v1 fun v2 s => h_op4_iface n54 (.c v2) c r s fun v3 s => K [v3] s)
 .ret))))))
 (.seq (.seq (.reg [q56] fun c r s K => binK .eql (r q7) I2 fun v0 => K [v0] s)
 (.cond (.t q56) .skip
 (.seq (.reg [q56] fun c r s K => binK .eql (r q7) I3 fun v0 => K [v0] s)
 (.cond (.t q56) .skip
 (.reg [q56] fun c r s K => binK .eql (r q7) I4 fun v0 => K [v0] s)))))
 (.cond (.t q56) (.seq (.reg [q62] fun c r s K => lnS (r q1) fun v0 => binK .eql v0 I4 fun v1 => K [v1] s)
 (.cond (.t q62) (.seq (.reg [q4] fun c r s K => c n34 [(r q1)] s fun v0 s => cnv .i64 v0 fun v1 => h_op3_build [zi, zi] [(n0, n1, (.c v1)), (n1, n1, (.c (r q0)))] c r s fun v2 s => bxx s v2 fun v3 s => h_op4_iface n65 (.c v3) c r s fun v4 s => K [v4] s)
 .ret)
 .skip))
 (.seq (.reg [q70] fun c r s K => binK .eql (r q7) I5 fun v0 => K [v0] s)
 (.cond (.t q70) (.seq (.reg [q80] fun c r s K => lnS (r q1) fun v0 => binK .eql v0 I16 fun v1 => mt v1 (r q1) s fun v2 s => jn true v1 (fun j => h_op3_sliceS n1 (.c v2) (some (.c I8)) none none c r s j) s fun v3 s => jn true v1 (fun j => c n34 [v3] s j) s fun v4 s => jt v1 (binK .leq v4 (u6 (nat_lit 1099511627776))) s fun v5 s => pck v1 v5 ff fun v6 => K [v6] s)
 (.cond (.t q80) (.seq (.drw [q4] fun c r s K => (fun z m => h_op3_sliceS n1 (.c (r q1)) none (some (.c I4)) none c r s fun v0 s => dw3 m n4 n3 s (fun s q => c n34 [v0] s q) fun v1 m s => cnv .i64 v1 fun v2 => h_op3_sliceS n1 (.c (r q1)) (some (.c I4)) (some (.c I8)) none c r s fun v3 s => dw3 m n64 n55 s (fun s q => c n34 [v3] s q) fun v4 m s => cnv .i64 v4 fun v5 => h_op3_sliceS n1 (.c (r q1)) (some (.c I8)) none none c r s fun v6 s => dw3 m (nat_lit 1024) (nat_lit 887) s (fun s q => c n34 [v6] s q) fun v7 m s => cnv .i64 v7 fun v8 => h_op3_build [zi, zi, zi] [(n0, n1, (.c v2)), (n1, n1, (.c v5)), (n2, n1, (.c v8))] c r s fun v9 s => h_op3_build [zi, zi, zi, zn] [(n0, n3, (.c v9))] c r s fun v10 s => dw1 m (nat_lit 16384) (fun q => bxx s v10 q) fun v11 m s => h_op4_iface n57 (.c v11) c r s fun v12 s => K [v12] s) s.next mk0)
 .ret)
 .skip))
 .skip))))))))
 (.seq (.reg [q4] fun c r s K => K [(.sc (.lit .nilIface))] s)
 .ret))), [(.tmp q4)], [q0, q1], [q9, q10, q11, q12, q13, q14, q15, q16, q17, q18, q19, q20, q21, q22, q24, q25, q26, q27, q28, q29, q30, q31, q32, q33, q34, q35, q39, q40, q41, q42, q43, q44, q45, q46, q47, q48, q49, q50, q51, q52, q53, q54, q55, q57, q58, q59, q60, q61, q63, q64, q65, q66, q67, q68, q69, q71, q72, q73, q74, q75, q76, q77, q78, q79, q81, q82, q83, q84, q85, q86, q87, q88, q89, q90, q91, q92, q93, q94, q95, q96]⟩
/- attestor/store.checkOf -/
noncomputable def cf35 : HF := ⟨
(.seq (.reg [q3, q6] fun c r s K => bxx s (r q0) fun v0 s => alc s [zu, zu] fun v1 s => K [v0, v1] s)
 (.seq (.reg [q7] fun c r s K => ixA n2 n1 (r q3) I0 fun v0 => ld s v0 fun v1 => ixA n2 n1 (r q3) I1 fun v2 => ld s v2 fun v3 => cnv .u64 (r q1) fun v4 => lnS (r q2) fun v5 => cnv .u64 v5 fun v6 => h_op3_buildS n4 n1 [zu, zu, zu, zu] [(n0, n1, (.c v1)), (n1, n1, (.c v3)), (n2, n1, (.c v4)), (n3, n1, (.c v6))] c r s fun v7 s => alc s [zn] fun v8 s => sto s n1 v8 v7 fun s => K [v8] s)
 (.seq (.seq (.reg [q20] fun c r s K => c n48 [(r q2), I3] s fun v0 s => K [v0] s)
 (.block n0 (.rng n35 n0 (.t q20) [q21] (.reg [q8] fun c r s K => K [(r q21)] s)
 (.block n1 (.drw [] fun c r s K => (fun z m => dL z m n1 n0 s (r q7) fun v0 m s => dw3 m n4 n2 s (fun s q => c n34 [(r q8)] s q) fun v1 m s => dw1 m n8 (fun q => h_op3_buildS n1 n1 [zu] [(n0, n1, (.c v1))] c r s q) fun v2 m s => dw5 z m n16 n15 s (.more (.more (.append n1 n8 (.c v0) (.c v2)))) r (fun s q => xA n1 n8 v0 v2 c r s q) fun v3 m s => dS z m n32 n31 s n1 (r q7) v3 fun _ m s => K [] s) s.next mk0)))))
 (.seq (.reg [] fun c r s K => ld s (r q7) fun v0 => c n49 [I3, v0] s fun v1 s => sto s n2 (r q6) v1 fun s => K [] s)
 .ret)))), [(.cellN n2 q6)], [q0, q1, q2], [q9, q10, q11, q12, q13, q14, q15, q16, q17, q18, q19, q22, q23, q24, q25, q26, q27, q28]⟩
/- attestor/sponge.Hash -/
noncomputable def cf49 : HF := ⟨
(.seq (.reg [q4] fun c r s K => alc s [zu, zu] fun v0 s => K [v0] s)
 (.seq (.seq (.reg [q12] fun c r s K => c n57 [(r q0)] s fun v0 s => nott v0 fun v1 => K [v1] s)
 (.cond (.t q12) (.seq (.reg [] fun c r s K => h_op3_build [zu, zu] [] c r s fun v0 s => sto s n2 (r q4) v0 fun s => K [] s)
 .ret)
 .skip))
 (.seq (.reg [q5] fun c r s K => c n58 [(r q0)] s fun v0 s => alc s [zu, zu, (.bool false)] fun v1 s => sto s n3 v1 v0 fun s => K [v1] s)
 (.seq (.reg [q6] fun c r s K => lnS (r q1) fun v0 => cnv .u64 v0 fun v1 => fad n0 (r q5) fun v2 => ld s v2 fun v3 => binK .rem v1 v3 fun v4 => h_op3_build [zu, zu, zu, zu] [(n2, n1, (.c v4))] c r s fun v5 s => alc s [zu, zu, zu, zu] fun v6 s => sto s n4 v6 v5 fun s => K [v6] s)
 (.seq (.seq (.reg [q25] fun c r s K => lnS (r q1) fun v0 => binK .eql v0 I0 fun v1 => K [v1] s)
 (.cond (.t q25) (.reg [] fun c r s K => lN s n3 (r q5) fun v0 => lN s n4 (r q6) fun v1 => c n59 [v0, v1] s fun v2 s => sto s n4 (r q6) v2 fun s => K [] s)
 .skip))
 (.seq (.block n0 (.loop (.seq (.seq (.reg [q31] fun c r s K => lnS (r q1) fun v0 => binK .gtr v0 I0 fun v1 => K [v1] s)
 (.cond (.t q31) .skip
 (.exit n0)))
 (.block n1 (.seq (.reg [q7] fun c r s K => lnS (r q1) fun v0 => h_op4_minmax false [(.c I2), (.c v0)] c r s fun v1 s => K [v1] s)
 (.seq (.seq (.reg [q37, q38, q39] fun c r s K => h_op3_sliceS n1 (.c (r q1)) none (some (.c (r q7))) none c r s fun v0 s => lnS v0 fun v1 => K [v0, v1, I0] s)
 (.block n2 (.loop (.seq (.reg [q40] fun c r s K => binK .lss (r q39) (r q38) fun v0 => K [v0] s)
 (.seq (.cond (.t q40) .skip
 (.exit n2))
 (.seq (.block n3 (.seq (.reg [q8, q9] fun c r s K => ixs n1 (r q37) (r q39) fun v0 => ld s v0 fun v1 => K [(r q39), v1] s)
 (.drw [] fun c r s K => (fun z m => ixA n4 n1 (r q6) (r q8) fun v0 => dL z m n8 n6 s v0 fun v1 m s => fad n0 (r q5) fun v2 => dL z m n64 n32 s v2 fun v3 m s => binK .rem (r q9) v3 fun v4 => binK .add v1 v4 fun v5 => fad n0 (r q5) fun v6 => dL z m (nat_lit 1024) (nat_lit 512) s v6 fun v7 m s => binK .rem v5 v7 fun v8 => ixA n4 n1 (r q6) (r q8) fun v9 => dS z m (nat_lit 8192) (nat_lit 8191) s n1 v9 v8 fun _ m s => K [] s) s.next mk0)))
 (.reg [q39] fun c r s K => binK .add (r q39) I1 fun v0 => K [v0] s)))))))
 (.seq (.reg [] fun c r s K => lN s n3 (r q5) fun v0 => lN s n4 (r q6) fun v1 => c n59 [v0, v1] s fun v2 s => sto s n4 (r q6) v2 fun s => K [] s)
 (.reg [q1] fun c r s K => h_op3_sliceS n1 (.c (r q1)) (some (.c (r q7))) none none c r s fun v0 s => K [v0] s))))))))
 (.seq (.reg [] fun c r s K => ixA n4 n1 (r q6) I0 fun v0 => ld s v0 fun v1 => ixA n4 n1 (r q6) I1 fun v2 => ld s v2 fun v3 => h_op3_build [zu, zu] [(n0, n1, (.c v1)), (n1, n1, (.c v3))] c r s fun v4 s => sto s n2 (r q4) v4 fun s => K [] s)
 .ret))))))), [(.cellN n2 q4)], [q0, q1], [q10, q11, q13, q14, q15, q16, q17, q18, q19, q20, q21, q22, q23, q24, q26, q27, q28, q29, q30, q32, q33, q34, q35, q36, q41, q42, q43, q44, q45, q46, q47, q48, q49, q50, q51, q52, q53, q54, q55, q56, q57, q58, q59, q60, q61, q62, q63, q64, q65, q66, q67, q68]⟩
/- (attestor/sponge.mixer).perm -/
noncomputable def cf59 : HF := ⟨
(.seq (.reg [q2, q3, q4] fun c r s K => bxx s (r q0) fun v0 s => bxx s (r q1) fun v1 s => alc s [zu, zu, zu, zu] fun v2 s => K [v0, v1, v2] s)
 (.seq (.reg [q5] fun c r s K => K [U1] s)
 (.seq (.seq (.reg [q6] fun c r s K => K [I0] s)
 (.block n0 (.loop (.seq (.reg [q7] fun c r s K => binK .lss (r q6) I8 fun v0 => K [v0] s)
 (.seq (.cond (.t q7) .skip
 (.exit n0))
 (.seq (.block n1 (.reg [q5] fun c r s K => lN s n3 (r q2) fun v0 => lN s n4 (r q3) fun v1 => c n64 [v0, (r q5), v1] s fun v2 s => xE n0 v2 c r s fun v3 s => xE n1 v2 c r s fun v4 s => sto s n4 (r q3) v4 fun s => K [v3] s))
 (.reg [q6] fun c r s K => binK .add (r q6) I1 fun v0 => K [v0] s)))))))
 (.seq (.reg [] fun c r s K => lN s n4 (r q3) fun v0 => sto s n4 (r q4) v0 fun s => K [] s)
 .ret)))), [(.cellN n4 q4)], [q0, q1], [q9, q10, q11, q12, q8, q13, q14, q15, q16]⟩
/- (attestor/sponge.mixer).round -/
noncomputable def cf64 : HF := ⟨
(.seq (.reg [q3, q5, q6, q7] fun c r s K => bxx s (r q0) fun v0 s => bxx s (r q2) fun v1 s => alc s [zu, zu, zu, zu] fun v2 s => K [v0, v1, U0, v2] s)
 (.seq (.seq (.reg [q10] fun c r s K => K [I0] s)
 (.block n0 (.loop (.seq (.reg [q11] fun c r s K => binK .lss (r q10) I4 fun v0 => K [v0] s)
 (.seq (.cond (.t q11) .skip
 (.exit n0))
 (.seq (.block n1 (.seq (.reg [q8] fun c r s K => K [(r q10)] s)
 (.seq (.reg [q1] fun c r s K => fad n1 (r q3) fun v0 => ld s v0 fun v1 => binK .mul (r q1) v1 fun v2 => fad n0 (r q3) fun v3 => ld s v3 fun v4 => binK .rem v2 v4 fun v5 => K [v5] s)
 (.drw [] fun c r s K => (fun z m => dN z m n2 n0 s n3 (r q3) fun v0 m s => ixA n4 n1 (r q5) (r q8) fun v1 => dL z m n16 n12 s v1 fun v2 m s => binK .add v2 (r q1) fun v3 => binK .add v3 U7 fun v4 => fad n0 (r q3) fun v5 => dL z m (nat_lit 512) (nat_lit 256) s v5 fun v6 m s => binK .rem v4 v6 fun v7 => dw3 m (nat_lit 2048) (nat_lit 2046) s (fun s q => c n66 [v0, v7] s q) fun v8 m s => ixA n4 n1 (r q5) (r q8) fun v9 => dS z m (nat_lit 8192) (nat_lit 8191) s n1 v9 v8 fun _ m s => K [] s) s.next mk0))))
 (.reg [q10] fun c r s K => binK .add (r q10) I1 fun v0 => K [v0] s)))))))
 (.seq (.reg [q9] fun c r s K => ixA n4 n1 (r q5) I0 fun v0 => ld s v0 fun v1 => ixA n4 n1 (r q5) I1 fun v2 => ld s v2 fun v3 => binK .add v1 v3 fun v4 => ixA n4 n1 (r q5) I2 fun v5 => ld s v5 fun v6 => binK .add v4 v6 fun v7 => ixA n4 n1 (r q5) I3 fun v8 => ld s v8 fun v9 => binK .add v7 v9 fun v10 => K [v10] s)
 (.seq (.drw [q6] fun c r s K => (fun z m => ixA n4 n1 (r q5) I0 fun v0 => dL z m n8 n4 s v0 fun v1 m s => binK .add (r q9) v1 fun v2 => ixA n4 n1 (r q5) I1 fun v3 => dL z m n64 n32 s v3 fun v4 m s => binK .mul U2 v4 fun v5 => binK .add v2 v5 fun v6 => fad n0 (r q3) fun v7 => dL z m (nat_lit 1024) (nat_lit 512) s v7 fun v8 m s => binK .rem v6 v8 fun v9 => ixA n4 n1 (r q5) I1 fun v10 => dL z m (nat_lit 16384) (nat_lit 8192) s v10 fun v11 m s => binK .add (r q9) v11 fun v12 => ixA n4 n1 (r q5) I2 fun v13 => dL z m (nat_lit 131072) (nat_lit 65536) s v13 fun v14 m s => binK .mul U2 v14 fun v15 => binK .add v12 v15 fun v16 => fad n0 (r q3) fun v17 => dL z m (nat_lit 2097152) (nat_lit 1048576) s v17 fun v18 m s => binK .rem v16 v18 fun v19 => ixA n4 n1 (r q5) I2 fun v20 => dL z m (nat_lit 33554432) (nat_lit 16777216) s v20 fun v21 m s => binK .add (r q9) v21 fun v22 => ixA n4 n1 (r q5) I3 fun v23 => dL z m (nat_lit 268435456) (nat_lit 134217728) s v23 fun v24 m s => binK .mul U2 v24 fun v25 => binK .add v22 v25 fun v26 => fad n0 (r q3) fun v27 => dL z m (nat_lit 4294967296) (nat_lit 2147483648) s v27 fun v28 m s => binK .rem v26 v28 fun v29 => ixA n4 n1 (r q5) I3 fun v30 => dL z m (nat_lit 68719476736) (nat_lit 34359738368) s v30 fun v31 m s => binK .add (r q9) v31 fun v32 => ixA n4 n1 (r q5) I0 fun v33 => dL z m (nat_lit 549755813888) (nat_lit 274877906944) s v33 fun v34 m s => binK .mul U2 v34 fun v35 => binK .add v32 v35 fun v36 => fad n0 (r q3) fun v37 => dL z m (nat_lit 8796093022208) (nat_lit 4398046511104) s v37 fun v38 m s => binK .rem v36 v38 fun v39 => h_op3_build [zu, zu, zu, zu] [(n0, n1, (.c v9)), (n1, n1, (.c v19)), (n2, n1, (.c v29)), (n3, n1, (.c v39))] c r s fun v40 s => dS z m (nat_lit 140737488355328) (nat_lit 140737488355327) s n4 (r q7) v40 fun _ m s => K [(r q1)] s) s.next mk0)
 .ret)))), [(.tmp q6), (.cellN n4 q7)], [q0, q1, q2], [q12, q13, q14, q15, q16, q17, q18, q19, q20, q21, q22, q23, q24, q25, q26, q27, q28, q29, q30, q31, q32, q33, q34, q35, q36, q37, q38, q39, q40, q41, q42, q43, q44, q45, q46, q47, q48, q49, q50, q51, q52, q53, q54, q55, q56, q57, q58, q59, q60, q61, q62, q63, q64, q65, q66, q67, q68, q69, q70, q71, q72, q73, q74, q75, q76, q77, q78, q79, q80, q81, q82, q83, q84, q85, q86, q87, q88, q89, q90]⟩
/- (attestor/sponge.mixer).power -/
noncomputable def cf66 : HF := ⟨
(.seq (.reg [q2, q4] fun c r s K => bxx s (r q0) fun v0 s => K [v0, U0] s)
 (.seq (.reg [q5] fun c r s K => binK .mul (r q1) (r q1) fun v0 => fad n0 (r q2) fun v1 => ld s v1 fun v2 => binK .rem v0 v2 fun v3 => K [v3] s)
 (.seq (.seq (.reg [q13] fun c r s K => fad n2 (r q2) fun v0 => ld s v0 fun v1 => K [v1] s)
 (.cond (.t q13) (.reg [q5] fun c r s K => binK .mul (r q5) (r q5) fun v0 => fad n0 (r q2) fun v1 => ld s v1 fun v2 => binK .rem v0 v2 fun v3 => K [v3] s)
 .skip))
 (.seq (.reg [q4] fun c r s K => binK .mul (r q5) (r q1) fun v0 => fad n0 (r q2) fun v1 => ld s v1 fun v2 => binK .rem v0 v2 fun v3 => K [v3] s)
 .ret)))), [(.tmp q4)], [q0, q1], [q6, q7, q8, q9, q10, q11, q12, q14, q15, q16, q17, q18, q19, q20, q21, q22, q23, q24, q25]⟩
/- attestor/sponge.in -/
noncomputable def cf58 : HF := ⟨
(.seq (.reg [q2] fun c r s K => alc s [zu, zu, (.bool false)] fun v0 s => K [v0] s)
 (.seq (.reg [] fun c r s K => c n61 [(r q0)] s fun v0 s => c n62 [(r q0)] s fun v1 s => c n63 [(r q0)] s fun v2 s => binK .eql v2 I5 fun v3 => h_op3_build [zu, zu, (.bool false)] [(n0, n1, (.c v0)), (n1, n1, (.c v1)), (n2, n1, (.c v3))] c r s fun v4 s => sto s n3 (r q2) v4 fun s => K [] s)
 .ret)), [(.cellN n3 q2)], [q0], [q3, q4, q5, q6, q7, q8, q9, q10]⟩
/- attestor/field.Exponent -/
noncomputable def cf63 : HF := ⟨
(.seq (.reg [q2] fun c r s K => K [I0] s)
 (.seq (.reg [q2] fun c r s K => c n65 [(r q0)] s fun v0 s => fld n3 n1 false v0 fun v1 => K [v1] s)
 .ret)), [(.tmp q2)], [q0], [q3, q4, q5]⟩
/- attestor/field.of -/
noncomputable def cf65 : HF := ⟨
(.seq (.reg [q2] fun c r s K => alc s [zu, zu, zi, zi, zn] fun v0 s => K [v0] s)
 (.seq (.seq (.reg [q5] fun c r s K => c n57 [(r q0)] s fun v0 s => nott v0 fun v1 => K [v1] s)
 (.cond (.t q5) (.seq (.reg [] fun c r s K => h_op3_build [zu, zu, zi, zi, zn] [] c r s fun v0 s => sto s n5 (r q2) v0 fun s => K [] s)
 .ret)
 .skip))
 (.seq (.reg [] fun c r s K => ixA n4 n5 (.sc (.ptr n0 n0)) (r q0) fun v0 => lN s n5 v0 fun v1 => sto s n5 (r q2) v1 fun s => K [] s)
 .ret))), [(.cellN n5 q2)], [q0], [q3, q4, q6, q7, q8, q9]⟩
/- attestor/field.Generator -/
noncomputable def cf62 : HF := ⟨
(.seq (.reg [q2] fun c r s K => K [U0] s)
 (.seq (.reg [q2] fun c r s K => c n65 [(r q0)] s fun v0 s => fld n1 n1 false v0 fun v1 => K [v1] s)
 .ret)), [(.tmp q2)], [q0], [q3, q4, q5]⟩
/- attestor/field.P -/
noncomputable def cf61 : HF := ⟨
(.seq (.reg [q2] fun c r s K => K [U0] s)
 (.seq (.reg [q2] fun c r s K => c n65 [(r q0)] s fun v0 s => fld n0 n1 false v0 fun v1 => K [v1] s)
 .ret)), [(.tmp q2)], [q0], [q3, q4, q5]⟩
/- attestor/field.Valid -/
noncomputable def cf57 : HF := ⟨
(.seq (.reg [q2] fun c r s K => K [ff] s)
 (.seq (.reg [q2] fun c r s K => binK .geq (r q0) I0 fun v0 => mt v0 (r q0) s fun v1 s => jt v0 (binK .lss v1 I4) s fun v2 s => pck v0 v2 ff fun v3 => K [v3] s)
 .ret)), [(.tmp q2)], [q0], [q3, q4, q5, q6, q7, q8]⟩
/- slices.Chunk[[]byte,byte] -/
noncomputable def cf48 : HF := ⟨
(.seq (.reg [q2, q3, q4] fun c r s K => bxx s (r q0) fun v0 s => bxx s (r q1) fun v1 s => K [v0, v1, (.sc (.lit .nilFunc))] s)
 (.seq (.seq (.reg [q6] fun c r s K => ld s (r q3) fun v0 => binK .lss v0 I1 fun v1 => K [v1] s)
 (.cond (.t q6) (.reg [] fun c r s K => h_op4_iface n9 (.c (.sc (.lit (.string ⟨#[99, 97, 110, 110, 111, 116, 32, 98, 101, 32, 108, 101, 115, 115, 32, 116, 104, 97, 110, 32, 49]⟩)))) c r s fun v0 s => h_op4_bad n102 c r s fun _ s => K [] s)
 .skip))
 (.seq (.reg [q4] fun c r s K => h_op4_makeFunc n56 [(.c (r q2)), (.c (r q3))] c r s fun v0 s => K [v0] s)
 .ret))), [(.tmp q4)], [q0, q1], [q5, q7, q8]⟩
/- slices.Chunk[[]byte,byte]$1 -/
noncomputable def cf56 : HF := ⟨
(.seq (.reg [q4] fun c r s K => K [I0] s)
 (.block n0 (.loop (.seq (.seq (.reg [q9] fun c r s K => ld s (r q1) fun v0 => lnS v0 fun v1 => binK .lss (r q4) v1 fun v2 => K [v2] s)
 (.cond (.t q9) .skip
 (.exit n0)))
 (.seq (.block n1 (.seq (.drw [q5] fun c r s K => (fun z m => dL z m n1 n0 s (r q2) fun v0 m s => dL z m n2 n0 s (r q1) fun v1 m s => h_op3_sliceS n1 (.c v1) (some (.c (r q4))) none none c r s fun v2 s => lnS v2 fun v3 => h_op4_minmax false [(.c v0), (.c v3)] c r s fun v4 s => K [v4] s) s.next mk0)
 (.seq (.reg [q30] fun c r s K => ld s (r q1) fun v0 => binK .add (r q4) (r q5) fun v1 => binK .add (r q4) (r q5) fun v2 => h_op3_sliceS n1 (.c v0) (some (.c (r q4))) (some (.c v1)) (some (.c v2)) c r s fun v3 s => h_op4_callV (.c (r q0)) [(.c v3)] c r s fun v4 s => nott v4 fun v5 => K [v5] s)
 (.cond (.t q30) .ret
 .skip))))
 (.reg [q4] fun c r s K => ld s (r q2) fun v0 => binK .add (r q4) v0 fun v1 => K [v1] s)))))), [], [q0, q1, q2], [q6, q7, q8, q13, q14, q15, q16, q17, q18, q19, q20, q21, q22, q23, q24, q25, q26, q27, q28, q29, q10, q11, q12]⟩
/- attestor/store.value -/
noncomputable def cf34 : HF := ⟨
(.seq (.reg [q2] fun c r s K => K [U0] s)
 (.seq (.reg [q3] fun c r s K => K [U0] s)
 (.seq (.seq (.reg [q6, q7, q8] fun c r s K => lnS (r q0) fun v0 => K [(r q0), v0, I0] s)
 (.block n0 (.loop (.seq (.reg [q9] fun c r s K => binK .lss (r q8) (r q7) fun v0 => K [v0] s)
 (.seq (.cond (.t q9) .skip
 (.exit n0))
 (.seq (.block n1 (.seq (.reg [q4, q5] fun c r s K => ixs n1 (r q6) (r q8) fun v0 => ld s v0 fun v1 => K [(r q8), v1] s)
 (.reg [q3] fun c r s K => cnv .u64 (r q5) fun v0 => binK .mul I8 (r q4) fun v1 => xS true v0 v1 c r s fun v2 s => binK .or (r q3) v2 fun v3 => K [v3] s)))
 (.reg [q8] fun c r s K => binK .add (r q8) I1 fun v0 => K [v0] s)))))))
 (.seq (.reg [q2] fun c r s K => K [(r q3)] s)
 .ret)))), [(.tmp q2)], [q0], [q10, q11, q12, q13, q14, q15, q16, q17, q18, q19, q20, q21]⟩
/- attestor/store.New -/
noncomputable def cf26 : HF := ⟨
(.seq (.reg [q0] fun c r s K => K [(.sc .nilp)] s)
 (.seq (.reg [q0] fun c r s K => h_op5_mapNew  c r s fun v0 s => h_op3_build [(.bool false), zn, (.lit (.map none)), zi, zi, zn, zu, zu, zi] [(n0, n1, (.c tt)), (n2, n1, (.c v0))] c r s fun v1 s => bxx s v1 fun v2 s => K [v2] s)
 .ret)), [(.tmp q0)], [], [q1, q2, q3]⟩
/- (*attestor/store.Store).Copy -/
noncomputable def cf16 : HF := ⟨
(.seq (.reg [q2] fun c r s K => K [(.sc .nilp)] s)
 (.seq (.seq (.reg [q9] fun c r s K => c n18 [(r q0)] s fun v0 s => nott v0 fun v1 => K [v1] s)
 (.cond (.t q9) (.seq (.reg [q2] fun c r s K => K [(.sc .nilp)] s)
 .ret)
 .skip))
 (.seq (.reg [q3] fun c r s K => xC (r q0) c r s fun v0 s => lN s n9 v0 fun v1 => alc s [(.bool false), zn, (.lit (.map none)), zi, zi, zn, zu, zu, zi] fun v2 s => sto s n9 v2 v1 fun s => K [v2] s)
 (.seq (.drw [] fun c r s K => (fun z m => xC (r q0) c r s fun v0 s => fad n1 v0 fun v1 => dL z m n8 n7 s v1 fun v2 m s => dw3 m n16 n15 s (fun s q => c n25 [v2] s q) fun v3 m s => xC (r q0) c r s fun v4 s => fad n5 v4 fun v5 => dL z m (nat_lit 256) (nat_lit 224) s v5 fun v6 m s => dw3 m (nat_lit 512) (nat_lit 511) s (fun s q => c n21 [v6] s q) fun v7 m s => xC (r q0) c r s fun v8 s => fad n2 v8 fun v9 => dL z m (nat_lit 8192) (nat_lit 7168) s v9 fun v10 m s => dw3 m (nat_lit 16384) (nat_lit 16383) s (fun s q => h_op5_mapLen (.c v10) c r s q) fun v11 m s => h_op4_bad n102 c r s fun _ s => fad n1 (r q3) fun v13 => dS z m (nat_lit 131072) (nat_lit 98303) s n1 v13 v3 fun _ m s => fad n5 (r q3) fun v15 => dS z m (nat_lit 524288) (nat_lit 491519) s n1 v15 v7 fun _ m s => fad n2 (r q3) fun v17 => dS z m (nat_lit 2097152) (nat_lit 2097151) s n1 v17 (r q28) fun _ m s => K [] s) s.next mk0)
 (.seq (.seq (.reg [] fun c r s K => xC (r q0) c r s fun v0 s => fad n2 v0 fun v1 => ld s v1 fun v2 => h_op4_bad n102 c r s fun _ s => K [] s)
 (.block n0 (.loop (.seq (.reg [q38] fun c r s K => h_op4_bad n102 c r s fun _ s => xE n0 (r q37) c r s fun v1 s => K [v1] s)
 (.seq (.cond (.t q38) .skip
 (.exit n0))
 (.block n1 (.seq (.reg [q4, q5] fun c r s K => h_op4_bad n102 c r s fun _ s => xE n0 (r q39) c r s fun v1 s => xE n1 (r q39) c r s fun v2 s => K [v1, v2] s)
 (.seq (.reg [q6] fun c r s K => xC (r q5) c r s fun v0 s => lN s n7 v0 fun v1 => c n22 [v1] s fun v2 s => alc s [zi, zu, zu, zn, zn, zi, (.bool false)] fun v3 s => sto s n7 v3 v2 fun s => K [v3] s)
 (.reg [] fun c r s K => fad n2 (r q3) fun v0 => ld s v0 fun v1 => h_op5_mapSet n1 (.c v1) (.c (r q4)) (.c (r q6)) c r s fun _ s => K [] s)))))))))
 (.seq (.reg [q2] fun c r s K => K [(r q3)] s)
 .ret)))))), [(.tmp q2)], [q0], [q7, q8, q10, q11, q12, q13, q14, q15, q16, q17, q18, q19, q20, q21, q22, q23, q24, q25, q26, q27, q29, q30, q31, q32, q33, q34, q35, q40, q41, q42, q43, q44, q45, q46, q47, q48]⟩
/- bytes.Clone -/
noncomputable def cf21 : HF := ⟨
(.seq (.reg [q2] fun c r s K => K [(.sc zn)] s)
 (.seq (.seq (.reg [q4] fun c r s K => h_op4_eqv .slice false (.c (r q0)) (.c (.sc zn)) c r s fun v0 s => K [v0] s)
 (.cond (.t q4) (.seq (.reg [q2] fun c r s K => K [(.sc zn)] s)
 .ret)
 .skip))
 (.seq (.reg [q2] fun c r s K => h_op3_buildS n0 n1 [] [] c r s fun v0 s => xA n1 n1 v0 (r q0) c r s fun v1 s => K [v1] s)
 .ret))), [(.tmp q2)], [q0], [q3, q5, q6, q7]⟩
/- (*attestor/store.Store).Last -/
noncomputable def cf15 : HF := ⟨
(.seq (.reg [q2] fun c r s K => K [I0] s)
 (.seq (.seq (.reg [q5] fun c r s K => c n18 [(r q0)] s fun v0 s => nott v0 fun v1 => K [v1] s)
 (.cond (.t q5) (.seq (.reg [q2] fun c r s K => K [I0] s)
 .ret)
 .skip))
 (.seq (.reg [q2] fun c r s K => xC (r q0) c r s fun v0 s => fad n3 v0 fun v1 => ld s v1 fun v2 => K [v2] s)
 .ret))), [(.tmp q2)], [q0], [q3, q4, q6, q7, q8, q9]⟩
/- (*attestor/store.Store).Now -/
noncomputable def cf14 : HF := ⟨
(.seq (.reg [q2] fun c r s K => K [I0] s)
 (.seq (.seq (.reg [q5] fun c r s K => c n18 [(r q0)] s fun v0 s => nott v0 fun v1 => K [v1] s)
 (.cond (.t q5) (.seq (.reg [q2] fun c r s K => K [I0] s)
 .ret)
 .skip))
 (.seq (.reg [q2] fun c r s K => xC (r q0) c r s fun v0 s => fad n4 v0 fun v1 => ld s v1 fun v2 => K [v2] s)
 .ret))), [(.tmp q2)], [q0], [q3, q4, q6, q7, q8, q9]⟩
/- (*attestor/store.Store).Find -/
noncomputable def cf13 : HF := ⟨
(.seq (.reg [q3, q4] fun c r s K => bxx s (r q1) fun v0 s => K [v0, (.sc zn)] s)
 (.seq (.seq (.reg [q7] fun c r s K => c n18 [(r q0)] s fun v0 s => nott v0 fun v1 => K [v1] s)
 (.cond (.t q7) (.seq (.reg [q4] fun c r s K => K [(.sc zn)] s)
 .ret)
 .skip))
 (.seq (.reg [q4] fun c r s K => h_op4_makeFunc n24 [(.c (r q3))] c r s fun v0 s => c n23 [(r q0), v0] s fun v1 s => K [v1] s)
 .ret))), [(.tmp q4)], [q0, q1], [q5, q6, q8, q9, q10]⟩
/- (*attestor/store.Store).Find$1 -/
noncomputable def cf24 : HF := ⟨
(.seq (.reg [q3] fun c r s K => K [ff] s)
 (.seq (.drw [q3] fun c r s K => (fun z m => xC (r q0) c r s fun v0 s => fad n1 v0 fun v1 => dN z m n8 n7 s n2 v1 fun v2 m s => dN z m n16 n0 s n2 (r q1) fun v3 m s => h_op4_eqv (.flat [n1, n1]) false (.c v2) (.c v3) c r s fun v4 s => K [v4] s) s.next mk0)
 .ret)), [(.tmp q3)], [q0, q1], [q4, q5, q6, q7, q8, q9]⟩
/- (*attestor/store.Store).Entries -/
noncomputable def cf12 : HF := ⟨
(.seq (.reg [q2] fun c r s K => K [(.sc zn)] s)
 (.seq (.seq (.reg [q8] fun c r s K => c n18 [(r q0)] s fun v0 s => nott v0 fun v1 => K [v1] s)
 (.cond (.t q8) (.seq (.reg [q2] fun c r s K => K [(.sc zn)] s)
 .ret)
 .skip))
 (.seq (.reg [q3] fun c r s K => xC (r q0) c r s fun v0 s => fad n1 v0 fun v1 => ld s v1 fun v2 => lnS v2 fun v3 => xM n7 n88 [zi, zu, zu, zn, zn, zi, (.bool false)] I0 v3 c r s fun v4 s => K [v4] s)
 (.seq (.seq (.reg [q18, q19, q20] fun c r s K => xC (r q0) c r s fun v0 s => fad n1 v0 fun v1 => ld s v1 fun v2 => lnS v2 fun v3 => K [v2, v3, I0] s)
 (.block n0 (.loop (.seq (.reg [q21] fun c r s K => binK .lss (r q20) (r q19) fun v0 => K [v0] s)
 (.seq (.cond (.t q21) .skip
 (.exit n0))
 (.seq (.block n1 (.seq (.reg [q5] fun c r s K => ixs n1 (r q18) (r q20) fun v0 => ld s v0 fun v1 => K [v1] s)
 (.reg [q3] fun c r s K => xC (r q0) c r s fun v0 s => fad n2 v0 fun v1 => ld s v1 fun v2 => h_op5_mapGet n1 [.nilp] false false (.c v2) (.c (r q5)) c r s fun v3 s => xC v3 c r s fun v4 s => lN s n7 v4 fun v5 => c n22 [v5] s fun v6 s => h_op3_buildS n1 n7 [zi, zu, zu, zn, zn, zi, (.bool false)] [(n0, n7, (.c v6))] c r s fun v7 s => xA n7 n88 (r q3) v7 c r s fun v8 s => K [v8] s)))
 (.reg [q20] fun c r s K => binK .add (r q20) I1 fun v0 => K [v0] s)))))))
 (.seq (.reg [q2] fun c r s K => K [(r q3)] s)
 .ret))))), [(.tmp q2)], [q0], [q6, q7, q9, q10, q11, q12, q13, q14, q15, q16, q17, q22, q23, q24, q25, q26, q27, q28, q29, q30, q31, q32, q33, q34, q35, q36, q37]⟩
/- (*attestor/store.Store).Drop -/
noncomputable def cf11 : HF := ⟨
(.seq (.reg [q6] fun c r s K => K [I0] s)
 (.seq (.reg [q6] fun c r s K => h_op3_build [zi, zi] [(n0, n1, (.c (r q2))), (n1, n1, (.c I4))] c r s fun v0 s => bxx s v0 fun v1 s => h_op4_iface n65 (.c v1) c r s fun v2 s => c n19 [(r q0), (r q1), v2] s fun v3 s => K [v3] s)
 .ret)), [(.tmp q6)], [q0, q1, q2], [q7, q8, q9, q10, q11, q12, q13]⟩
/- (*attestor/store.Store).Unpin -/
noncomputable def cf10 : HF := ⟨
(.seq (.reg [q6] fun c r s K => K [I0] s)
 (.seq (.reg [q6] fun c r s K => h_op3_build [zi, zi] [(n0, n1, (.c (r q2))), (n1, n1, (.c I3))] c r s fun v0 s => bxx s v0 fun v1 s => h_op4_iface n65 (.c v1) c r s fun v2 s => c n19 [(r q0), (r q1), v2] s fun v3 s => K [v3] s)
 .ret)), [(.tmp q6)], [q0, q1, q2], [q7, q8, q9, q10, q11, q12, q13]⟩
/- (*attestor/store.Store).Pin -/
noncomputable def cf9 : HF := ⟨
(.seq (.reg [q6] fun c r s K => K [I0] s)
 (.seq (.reg [q6] fun c r s K => h_op3_build [zi, zi] [(n0, n1, (.c (r q2))), (n1, n1, (.c I2))] c r s fun v0 s => bxx s v0 fun v1 s => h_op4_iface n65 (.c v1) c r s fun v2 s => c n19 [(r q0), (r q1), v2] s fun v3 s => K [v3] s)
 .ret)), [(.tmp q6)], [q0, q1, q2], [q7, q8, q9, q10, q11, q12, q13]⟩
/- (*attestor/store.Store).Get -/
noncomputable def cf8 : HF := ⟨
(.seq (.reg [q4, q5] fun c r s K => alc s [zi, zu, zu, zn, zn, zi, (.bool false)] fun v0 s => K [v0, I0] s)
 (.seq (.seq (.reg [q10] fun c r s K => c n18 [(r q0)] s fun v0 s => nott v0 fun v1 => K [v1] s)
 (.cond (.t q10) (.seq (.reg [q5] fun c r s K => h_op3_build [zi, zu, zu, zn, zn, zi, (.bool false)] [] c r s fun v0 s => sto s n7 (r q4) v0 fun s => K [I10] s)
 .ret)
 .skip))
 (.seq (.reg [q6, q7] fun c r s K => xC (r q0) c r s fun v0 s => fad n2 v0 fun v1 => ld s v1 fun v2 => h_op5_mapGet n1 [.nilp] false true (.c v2) (.c (r q1)) c r s fun v3 s => xE n0 v3 c r s fun v4 s => xE n1 v3 c r s fun v5 s => K [v4, v5] s)
 (.seq (.seq (.reg [q22] fun c r s K => nott (r q7) fun v0 => K [v0] s)
 (.cond (.t q22) (.seq (.reg [q5] fun c r s K => h_op3_build [zi, zu, zu, zn, zn, zi, (.bool false)] [] c r s fun v0 s => sto s n7 (r q4) v0 fun s => K [I7] s)
 .ret)
 .skip))
 (.seq (.reg [q5] fun c r s K => xC (r q6) c r s fun v0 s => lN s n7 v0 fun v1 => c n22 [v1] s fun v2 s => sto s n7 (r q4) v2 fun s => K [I0] s)
 .ret))))), [(.cellN n7 q4), (.tmp q5)], [q0, q1], [q8, q9, q11, q13, q14, q15, q16, q17, q18, q12, q19, q20, q21, q23, q24, q25, q26, q27]⟩
/- (*attestor/store.Store).Journal -/
noncomputable def cf7 : HF := ⟨
(.seq (.reg [q2, q3] fun c r s K => K [(.sc zn), I0] s)
 (.seq (.seq (.reg [q6] fun c r s K => c n18 [(r q0)] s fun v0 s => nott v0 fun v1 => K [v1] s)
 (.cond (.t q6) (.seq (.reg [q2, q3] fun c r s K => K [(.sc zn), I0] s)
 .ret)
 .skip))
 (.seq (.drw [q2, q3] fun c r s K => (fun z m => xC (r q0) c r s fun v0 s => fad n5 v0 fun v1 => dL z m n8 n7 s v1 fun v2 m s => dw3 m n16 n15 s (fun s q => c n21 [v2] s q) fun v3 m s => xC (r q0) c r s fun v4 s => fad n8 v4 fun v5 => dL z m (nat_lit 256) (nat_lit 224) s v5 fun v6 m s => K [v3, v6] s) s.next mk0)
 .ret))), [(.tmp q2), (.tmp q3)], [q0], [q4, q5, q7, q8, q9, q10, q11, q12, q13, q14, q15]⟩
/- (*attestor/store.Store).Prune -/
noncomputable def cf6 : HF := ⟨
(.seq (.reg [q5, q6, q7] fun c r s K => bxx s (r q2) fun v0 s => K [v0, (.sc zn), I0] s)
 (.seq (.reg [q8] fun c r s K => lN s n3 (r q5) fun v0 => h_op3_build [zi, zi, zi, zn] [(n0, n3, (.c v0))] c r s fun v1 s => bxx s v1 fun v2 s => K [v2] s)
 (.seq (.seq (.reg [q9] fun c r s K => h_op4_iface n57 (.c (r q8)) c r s fun v0 s => c n19 [(r q0), (r q1), v0] s fun v1 s => K [v1] s)
 (.seq (.reg [q19] fun c r s K => binK .neq (r q9) I0 fun v0 => K [v0] s)
 (.cond (.t q19) (.seq (.reg [q6, q7] fun c r s K => K [(.sc zn), (r q9)] s)
 .ret)
 .skip)))
 (.seq (.reg [] fun c r s K => xC (r q8) c r s fun v0 s => fad n3 v0 fun v1 => ld s v1 fun v2 => c n20 [v2] s fun v3 s => K [] s)
 (.seq (.reg [q6, q7] fun c r s K => xC (r q8) c r s fun v0 s => fad n3 v0 fun v1 => ld s v1 fun v2 => K [v2, I0] s)
 .ret))))), [(.tmp q6), (.tmp q7)], [q0, q1, q2], [q10, q11, q12, q13, q14, q15, q16, q17, q18, q20, q21, q22, q23, q24, q25, q26, q27, q28, q29]⟩
/- slices.Sort[[]int,int] -/
noncomputable def cf20 : HF := ⟨
(.seq (.reg [q2] fun c r s K => lnS (r q0) fun v0 => K [v0] s)
 (.reg [] fun c r s K => cnv .u64 (r q2) fun v0 => c n31 [v0] s fun v1 s => c n30 [(r q0), I0, (r q2), v1] s fun v2 s => K [] s)), [], [q0], [q3, q4, q5, q6, q7, q8, q9, q10]⟩
/- slices.pdqsortOrdered[int] -/
noncomputable def cf30 : HF := ⟨
(.seq (.reg [q8] fun c r s K => K [tt] s)
 (.seq (.reg [q9] fun c r s K => K [tt] s)
 (.block n0 (.loop (.block n1 (.seq (.reg [q10] fun c r s K => binK .sub (r q2) (r q1) fun v0 => K [v0] s)
 (.seq (.seq (.reg [q23] fun c r s K => binK .leq (r q10) I12 fun v0 => K [v0] s)
 (.cond (.t q23) (.seq (.reg [] fun c r s K => c n37 [(r q0), (r q1), (r q2)] s fun v0 s => K [] s)
 .ret)
 .skip))
 (.seq (.seq (.reg [q29] fun c r s K => binK .eql (r q3) I0 fun v0 => K [v0] s)
 (.cond (.t q29) (.seq (.reg [] fun c r s K => c n38 [(r q0), (r q1), (r q2)] s fun v0 s => K [] s)
 .ret)
 .skip))
 (.seq (.seq (.reg [q35] fun c r s K => nott (r q8) fun v0 => K [v0] s)
 (.cond (.t q35) (.seq (.reg [] fun c r s K => c n39 [(r q0), (r q1), (r q2)] s fun v0 s => K [] s)
 (.reg [q3] fun c r s K => binK .sub (r q3) I1 fun v0 => K [v0] s))
 .skip))
 (.seq (.reg [q11, q12] fun c r s K => c n40 [(r q0), (r q1), (r q2)] s fun v0 s => xE n0 v0 c r s fun v1 s => xE n1 v0 c r s fun v2 s => K [v1, v2] s)
 (.seq (.seq (.reg [q50] fun c r s K => binK .eql (r q12) I2 fun v0 => K [v0] s)
 (.cond (.t q50) (.seq (.reg [] fun c r s K => c n41 [(r q0), (r q1), (r q2)] s fun v0 s => K [] s)
 (.seq (.reg [q11] fun c r s K => binK .sub (r q2) I1 fun v0 => binK .sub (r q11) (r q1) fun v1 => binK .sub v0 v1 fun v2 => K [v2] s)
 (.reg [q12] fun c r s K => K [I1] s)))
 .skip))
 (.seq (.seq (.reg [q68] fun c r s K => mt (r q8) (r q9) s fun v0 s => pck (r q8) v0 ff fun v1 => mt v1 (r q12) s fun v2 s => jt v1 (binK .eql v2 I1) s fun v3 s => pck v1 v3 ff fun v4 => K [v4] s)
 (.cond (.t q68) (.seq (.reg [q72] fun c r s K => c n42 [(r q0), (r q1), (r q2)] s fun v0 s => K [v0] s)
 (.cond (.t q72) .ret
 .skip))
 .skip))
 (.seq (.seq (.drw [q87] fun c r s K => (fun z m => binK .gtr (r q1) I0 fun v0 => jnD true v0 (fun jj => jj (r q0) m s) m s fun v1 m s => jnD true v0 (fun jj => jj (r q1) m s) m s fun v2 m s => jnD true v0 (fun jj => binK .sub v2 I1 fun v => jj v m s) m s fun v3 m s => jnD true v0 (fun jj => ixs n1 v1 v3 fun v => jj v m s) m s fun v4 m s => jnD true v0 (fun jj => dL z m n128 n127 s v4 jj) m s fun v5 m s => jnD true v0 (fun jj => jj (r q0) m s) m s fun v6 m s => jnD true v0 (fun jj => jj (r q11) m s) m s fun v7 m s => jnD true v0 (fun jj => ixs n1 v6 v7 fun v => jj v m s) m s fun v8 m s => jnD true v0 (fun jj => dL z m (nat_lit 2048) (nat_lit 1799) s v8 jj) m s fun v9 m s => jnD true v0 (fun jj => dw3 m (nat_lit 4096) (nat_lit 4095) s (fun s q => c n43 [v5, v9] s q) jj) m s fun v10 m s => jnD true v0 (fun jj => nott v10 fun v => jj v m s) m s fun v11 m s => pck v0 v11 ff fun v12 => K [v12] s) s.next mk0)
 (.cond (.t q87) (.seq (.reg [q13] fun c r s K => c n44 [(r q0), (r q1), (r q2), (r q11)] s fun v0 s => K [v0] s)
 (.seq (.reg [q1] fun c r s K => K [(r q13)] s)
 (.exit n1)))
 .skip))
 (.seq (.reg [q14, q15] fun c r s K => c n45 [(r q0), (r q1), (r q2), (r q11)] s fun v0 s => xE n0 v0 c r s fun v1 s => xE n1 v0 c r s fun v2 s => K [v1, v2] s)
 (.seq (.reg [q9] fun c r s K => K [(r q15)] s)
 (.seq (.reg [q16, q17] fun c r s K => binK .sub (r q14) (r q1) fun v0 => binK .sub (r q2) (r q14) fun v1 => K [v0, v1] s)
 (.seq (.reg [q18] fun c r s K => binK .quo (r q10) I8 fun v0 => K [v0] s)
 (.seq (.reg [q113] fun c r s K => binK .lss (r q16) (r q17) fun v0 => K [v0] s)
 (.cond (.t q113) (.seq (.reg [q8] fun c r s K => binK .geq (r q16) (r q18) fun v0 => K [v0] s)
 (.seq (.reg [] fun c r s K => c n30 [(r q0), (r q1), (r q14), (r q3)] s fun v0 s => K [] s)
 (.reg [q1] fun c r s K => binK .add (r q14) I1 fun v0 => K [v0] s)))
 (.seq (.reg [q8] fun c r s K => binK .geq (r q17) (r q18) fun v0 => K [v0] s)
 (.seq (.reg [] fun c r s K => binK .add (r q14) I1 fun v0 => c n30 [(r q0), v0, (r q2), (r q3)] s fun v1 s => K [] s)
 (.reg [q2] fun c r s K => K [(r q14)] s)))))))))))))))))))))), [], [q0, q1, q2, q3], [q19, q20, q21, q22, q24, q25, q26, q27, q28, q30, q31, q32, q33, q34, q36, q37, q38, q39, q40, q41, q43, q44, q45, q46, q42, q47, q48, q49, q51, q52, q53, q54, q55, q56, q57, q58, q59, q60, q61, q62, q63, q64, q65, q66, q67, q69, q70, q71, q73, q74, q75, q76, q77, q78, q79, q80, q81, q82, q83, q84, q85, q86, q88, q89, q90, q91, q92, q93, q95, q96, q97, q98, q99, q94, q100, q101, q102, q103, q104, q105, q106, q107, q108, q109, q110, q111, q112, q114, q115, q116, q117, q118, q119, q120, q121, q122, q123, q124, q125, q126, q127, q128, q129, q130, q131, q132, q133]⟩
/- slices.partitionOrdered[int] -/
noncomputable def cf45 : HF := ⟨
(.seq (.reg [q8, q9] fun c r s K => K [I0, ff] s)
 (.seq (.drw [] fun c r s K => (fun z m => ixs n1 (r q0) (r q3) fun v0 => dL z m n128 n112 s v0 fun v1 m s => ixs n1 (r q0) (r q1) fun v2 => dL z m (nat_lit 2048) (nat_lit 1792) s v2 fun v3 m s => ixs n1 (r q0) (r q1) fun v4 => dS z m (nat_lit 8192) (nat_lit 8179) s n1 v4 v1 fun _ m s => ixs n1 (r q0) (r q3) fun v6 => dS z m (nat_lit 32768) (nat_lit 32767) s n1 v6 v3 fun _ m s => K [] s) s.next mk0)
 (.seq (.reg [q10, q11] fun c r s K => binK .add (r q1) I1 fun v0 => binK .sub (r q2) I1 fun v1 => K [v0, v1] s)
 (.seq (.block n0 (.loop (.seq (.seq (.drw [q43] fun c r s K => (fun z m => binK .leq (r q10) (r q11) fun v0 => jnD true v0 (fun jj => jj (r q0) m s) m s fun v1 m s => jnD true v0 (fun jj => jj (r q10) m s) m s fun v2 m s => jnD true v0 (fun jj => ixs n1 v1 v2 fun v => jj v m s) m s fun v3 m s => jnD true v0 (fun jj => dL z m n128 n127 s v3 jj) m s fun v4 m s => jnD true v0 (fun jj => jj (r q0) m s) m s fun v5 m s => jnD true v0 (fun jj => jj (r q1) m s) m s fun v6 m s => jnD true v0 (fun jj => ixs n1 v5 v6 fun v => jj v m s) m s fun v7 m s => jnD true v0 (fun jj => dL z m (nat_lit 2048) (nat_lit 1807) s v7 jj) m s fun v8 m s => jnD true v0 (fun jj => dw3 m (nat_lit 4096) (nat_lit 4095) s (fun s q => c n43 [v4, v8] s q) jj) m s fun v9 m s => pck v0 v9 ff fun v10 => K [v10] s) s.next mk0)
 (.cond (.t q43) .skip
 (.exit n0)))
 (.block n1 (.reg [q10] fun c r s K => binK .add (r q10) I1 fun v0 => K [v0] s)))))
 (.seq (.block n2 (.loop (.seq (.seq (.drw [q60] fun c r s K => (fun z m => binK .leq (r q10) (r q11) fun v0 => jnD true v0 (fun jj => jj (r q0) m s) m s fun v1 m s => jnD true v0 (fun jj => jj (r q11) m s) m s fun v2 m s => jnD true v0 (fun jj => ixs n1 v1 v2 fun v => jj v m s) m s fun v3 m s => jnD true v0 (fun jj => dL z m n128 n127 s v3 jj) m s fun v4 m s => jnD true v0 (fun jj => jj (r q0) m s) m s fun v5 m s => jnD true v0 (fun jj => jj (r q1) m s) m s fun v6 m s => jnD true v0 (fun jj => ixs n1 v5 v6 fun v => jj v m s) m s fun v7 m s => jnD true v0 (fun jj => dL z m (nat_lit 2048) (nat_lit 1807) s v7 jj) m s fun v8 m s => jnD true v0 (fun jj => dw3 m (nat_lit 4096) (nat_lit 4095) s (fun s q => c n43 [v4, v8] s q) jj) m s fun v9 m s => jnD true v0 (fun jj => nott v9 fun v => jj v m s) m s fun v10 m s => pck v0 v10 ff fun v11 => K [v11] s) s.next mk0)
 (.cond (.t q60) .skip
 (.exit n2)))
 (.block n3 (.reg [q11] fun c r s K => binK .sub (r q11) I1 fun v0 => K [v0] s)))))
 (.seq (.seq (.reg [q65] fun c r s K => binK .gtr (r q10) (r q11) fun v0 => K [v0] s)
 (.cond (.t q65) (.seq (.drw [] fun c r s K => (fun z m => ixs n1 (r q0) (r q1) fun v0 => dL z m n128 n112 s v0 fun v1 m s => ixs n1 (r q0) (r q11) fun v2 => dL z m (nat_lit 2048) (nat_lit 1792) s v2 fun v3 m s => ixs n1 (r q0) (r q11) fun v4 => dS z m (nat_lit 8192) (nat_lit 8179) s n1 v4 v1 fun _ m s => ixs n1 (r q0) (r q1) fun v6 => dS z m (nat_lit 32768) (nat_lit 32767) s n1 v6 v3 fun _ m s => K [] s) s.next mk0)
 (.seq (.reg [q8, q9] fun c r s K => K [(r q11), tt] s)
 .ret))
 .skip))
 (.seq (.drw [] fun c r s K => (fun z m => ixs n1 (r q0) (r q11) fun v0 => dL z m n128 n112 s v0 fun v1 m s => ixs n1 (r q0) (r q10) fun v2 => dL z m (nat_lit 2048) (nat_lit 1792) s v2 fun v3 m s => ixs n1 (r q0) (r q10) fun v4 => dS z m (nat_lit 8192) (nat_lit 8179) s n1 v4 v1 fun _ m s => ixs n1 (r q0) (r q11) fun v6 => dS z m (nat_lit 32768) (nat_lit 32767) s n1 v6 v3 fun _ m s => K [] s) s.next mk0)
 (.seq (.reg [q10] fun c r s K => binK .add (r q10) I1 fun v0 => K [v0] s)
 (.seq (.reg [q11] fun c r s K => binK .sub (r q11) I1 fun v0 => K [v0] s)
 (.seq (.block n4 (.loop (.block n5 (.seq (.block n6 (.loop (.seq (.seq (.drw [q112] fun c r s K => (fun z m => binK .leq (r q10) (r q11) fun v0 => jnD true v0 (fun jj => jj (r q0) m s) m s fun v1 m s => jnD true v0 (fun jj => jj (r q10) m s) m s fun v2 m s => jnD true v0 (fun jj => ixs n1 v1 v2 fun v => jj v m s) m s fun v3 m s => jnD true v0 (fun jj => dL z m n128 n127 s v3 jj) m s fun v4 m s => jnD true v0 (fun jj => jj (r q0) m s) m s fun v5 m s => jnD true v0 (fun jj => jj (r q1) m s) m s fun v6 m s => jnD true v0 (fun jj => ixs n1 v5 v6 fun v => jj v m s) m s fun v7 m s => jnD true v0 (fun jj => dL z m (nat_lit 2048) (nat_lit 1807) s v7 jj) m s fun v8 m s => jnD true v0 (fun jj => dw3 m (nat_lit 4096) (nat_lit 4095) s (fun s q => c n43 [v4, v8] s q) jj) m s fun v9 m s => pck v0 v9 ff fun v10 => K [v10] s) s.next mk0)
 (.cond (.t q112) .skip
 (.exit n6)))
 (.block n7 (.reg [q10] fun c r s K => binK .add (r q10) I1 fun v0 => K [v0] s)))))
 (.seq (.block n8 (.loop (.seq (.seq (.drw [q129] fun c r s K => (fun z m => binK .leq (r q10) (r q11) fun v0 => jnD true v0 (fun jj => jj (r q0) m s) m s fun v1 m s => jnD true v0 (fun jj => jj (r q11) m s) m s fun v2 m s => jnD true v0 (fun jj => ixs n1 v1 v2 fun v => jj v m s) m s fun v3 m s => jnD true v0 (fun jj => dL z m n128 n127 s v3 jj) m s fun v4 m s => jnD true v0 (fun jj => jj (r q0) m s) m s fun v5 m s => jnD true v0 (fun jj => jj (r q1) m s) m s fun v6 m s => jnD true v0 (fun jj => ixs n1 v5 v6 fun v => jj v m s) m s fun v7 m s => jnD true v0 (fun jj => dL z m (nat_lit 2048) (nat_lit 1807) s v7 jj) m s fun v8 m s => jnD true v0 (fun jj => dw3 m (nat_lit 4096) (nat_lit 4095) s (fun s q => c n43 [v4, v8] s q) jj) m s fun v9 m s => jnD true v0 (fun jj => nott v9 fun v => jj v m s) m s fun v10 m s => pck v0 v10 ff fun v11 => K [v11] s) s.next mk0)
 (.cond (.t q129) .skip
 (.exit n8)))
 (.block n9 (.reg [q11] fun c r s K => binK .sub (r q11) I1 fun v0 => K [v0] s)))))
 (.seq (.seq (.reg [q134] fun c r s K => binK .gtr (r q10) (r q11) fun v0 => K [v0] s)
 (.cond (.t q134) (.exit n4)
 .skip))
 (.seq (.drw [] fun c r s K => (fun z m => ixs n1 (r q0) (r q11) fun v0 => dL z m n128 n112 s v0 fun v1 m s => ixs n1 (r q0) (r q10) fun v2 => dL z m (nat_lit 2048) (nat_lit 1792) s v2 fun v3 m s => ixs n1 (r q0) (r q10) fun v4 => dS z m (nat_lit 8192) (nat_lit 8179) s n1 v4 v1 fun _ m s => ixs n1 (r q0) (r q11) fun v6 => dS z m (nat_lit 32768) (nat_lit 32767) s n1 v6 v3 fun _ m s => K [] s) s.next mk0)
 (.seq (.reg [q10] fun c r s K => binK .add (r q10) I1 fun v0 => K [v0] s)
 (.reg [q11] fun c r s K => binK .sub (r q11) I1 fun v0 => K [v0] s)))))))))
 (.seq (.drw [] fun c r s K => (fun z m => ixs n1 (r q0) (r q1) fun v0 => dL z m n128 n112 s v0 fun v1 m s => ixs n1 (r q0) (r q11) fun v2 => dL z m (nat_lit 2048) (nat_lit 1792) s v2 fun v3 m s => ixs n1 (r q0) (r q11) fun v4 => dS z m (nat_lit 8192) (nat_lit 8179) s n1 v4 v1 fun _ m s => ixs n1 (r q0) (r q1) fun v6 => dS z m (nat_lit 32768) (nat_lit 32767) s n1 v6 v3 fun _ m s => K [] s) s.next mk0)
 (.seq (.reg [q8, q9] fun c r s K => K [(r q11), ff] s)
 .ret)))))))))))), [(.tmp q8), (.tmp q9)], [q0, q1, q2, q3], [q12, q13, q14, q15, q16, q17, q18, q19, q20, q21, q22, q23, q24, q25, q26, q27, q28, q29, q30, q31, q32, q33, q34, q35, q36, q37, q38, q39, q40, q41, q42, q44, q45, q46, q47, q48, q49, q50, q51, q52, q53, q54, q55, q56, q57, q58, q59, q61, q62, q63, q64, q66, q67, q68, q69, q70, q71, q72, q73, q74, q75, q76, q77, q78, q79, q80, q81, q82, q83, q84, q85, q86, q87, q88, q89, q90, q91, q92, q93, q94, q95, q96, q97, q98, q99, q100, q101, q102, q103, q104, q105, q106, q107, q108, q109, q110, q111, q113, q114, q115, q116, q117, q118, q119, q120, q121, q122, q123, q124, q125, q126, q127, q128, q130, q131, q132, q133, q135, q136, q137, q138, q139, q140, q141, q142, q143, q144, q145, q146, q147, q148, q149, q150, q151, q152, q153, q154, q155, q156, q157, q158, q159, q160, q161, q162, q163, q164, q165, q166, q167]⟩
/- slices.partitionEqualOrdered[int] -/
noncomputable def cf44 : HF := ⟨
(.seq (.reg [q8] fun c r s K => K [I0] s)
 (.seq (.drw [] fun c r s K => (fun z m => ixs n1 (r q0) (r q3) fun v0 => dL z m n128 n112 s v0 fun v1 m s => ixs n1 (r q0) (r q1) fun v2 => dL z m (nat_lit 2048) (nat_lit 1792) s v2 fun v3 m s => ixs n1 (r q0) (r q1) fun v4 => dS z m (nat_lit 8192) (nat_lit 8179) s n1 v4 v1 fun _ m s => ixs n1 (r q0) (r q3) fun v6 => dS z m (nat_lit 32768) (nat_lit 32767) s n1 v6 v3 fun _ m s => K [] s) s.next mk0)
 (.seq (.reg [q9, q10] fun c r s K => binK .add (r q1) I1 fun v0 => binK .sub (r q2) I1 fun v1 => K [v0, v1] s)
 (.seq (.block n0 (.loop (.block n1 (.seq (.block n2 (.loop (.seq (.seq (.drw [q43] fun c r s K => (fun z m => binK .leq (r q9) (r q10) fun v0 => jnD true v0 (fun jj => jj (r q0) m s) m s fun v1 m s => jnD true v0 (fun jj => jj (r q1) m s) m s fun v2 m s => jnD true v0 (fun jj => ixs n1 v1 v2 fun v => jj v m s) m s fun v3 m s => jnD true v0 (fun jj => dL z m n128 n127 s v3 jj) m s fun v4 m s => jnD true v0 (fun jj => jj (r q0) m s) m s fun v5 m s => jnD true v0 (fun jj => jj (r q9) m s) m s fun v6 m s => jnD true v0 (fun jj => ixs n1 v5 v6 fun v => jj v m s) m s fun v7 m s => jnD true v0 (fun jj => dL z m (nat_lit 2048) (nat_lit 1807) s v7 jj) m s fun v8 m s => jnD true v0 (fun jj => dw3 m (nat_lit 4096) (nat_lit 4095) s (fun s q => c n43 [v4, v8] s q) jj) m s fun v9 m s => jnD true v0 (fun jj => nott v9 fun v => jj v m s) m s fun v10 m s => pck v0 v10 ff fun v11 => K [v11] s) s.next mk0)
 (.cond (.t q43) .skip
 (.exit n2)))
 (.block n3 (.reg [q9] fun c r s K => binK .add (r q9) I1 fun v0 => K [v0] s)))))
 (.seq (.block n4 (.loop (.seq (.seq (.drw [q59] fun c r s K => (fun z m => binK .leq (r q9) (r q10) fun v0 => jnD true v0 (fun jj => jj (r q0) m s) m s fun v1 m s => jnD true v0 (fun jj => jj (r q1) m s) m s fun v2 m s => jnD true v0 (fun jj => ixs n1 v1 v2 fun v => jj v m s) m s fun v3 m s => jnD true v0 (fun jj => dL z m n128 n127 s v3 jj) m s fun v4 m s => jnD true v0 (fun jj => jj (r q0) m s) m s fun v5 m s => jnD true v0 (fun jj => jj (r q10) m s) m s fun v6 m s => jnD true v0 (fun jj => ixs n1 v5 v6 fun v => jj v m s) m s fun v7 m s => jnD true v0 (fun jj => dL z m (nat_lit 2048) (nat_lit 1807) s v7 jj) m s fun v8 m s => jnD true v0 (fun jj => dw3 m (nat_lit 4096) (nat_lit 4095) s (fun s q => c n43 [v4, v8] s q) jj) m s fun v9 m s => pck v0 v9 ff fun v10 => K [v10] s) s.next mk0)
 (.cond (.t q59) .skip
 (.exit n4)))
 (.block n5 (.reg [q10] fun c r s K => binK .sub (r q10) I1 fun v0 => K [v0] s)))))
 (.seq (.seq (.reg [q64] fun c r s K => binK .gtr (r q9) (r q10) fun v0 => K [v0] s)
 (.cond (.t q64) (.exit n0)
 .skip))
 (.seq (.drw [] fun c r s K => (fun z m => ixs n1 (r q0) (r q10) fun v0 => dL z m n128 n112 s v0 fun v1 m s => ixs n1 (r q0) (r q9) fun v2 => dL z m (nat_lit 2048) (nat_lit 1792) s v2 fun v3 m s => ixs n1 (r q0) (r q9) fun v4 => dS z m (nat_lit 8192) (nat_lit 8179) s n1 v4 v1 fun _ m s => ixs n1 (r q0) (r q10) fun v6 => dS z m (nat_lit 32768) (nat_lit 32767) s n1 v6 v3 fun _ m s => K [] s) s.next mk0)
 (.seq (.reg [q9] fun c r s K => binK .add (r q9) I1 fun v0 => K [v0] s)
 (.reg [q10] fun c r s K => binK .sub (r q10) I1 fun v0 => K [v0] s)))))))))
 (.seq (.reg [q8] fun c r s K => K [(r q9)] s)
 .ret))))), [(.tmp q8)], [q0, q1, q2, q3], [q11, q12, q13, q14, q15, q16, q17, q18, q19, q20, q21, q22, q23, q24, q25, q26, q27, q28, q29, q30, q31, q32, q33, q34, q35, q36, q37, q38, q39, q40, q41, q42, q44, q45, q46, q47, q48, q49, q50, q51, q52, q53, q54, q55, q56, q57, q58, q60, q61, q62, q63, q65, q66, q67, q68, q69, q70, q71, q72, q73, q74, q75, q76, q77, q78, q79, q80, q81, q82, q83]⟩
/- cmp.Less[int] -/
noncomputable def cf43 : HF := ⟨
(.seq (.reg [q4] fun c r s K => K [ff] s)
 (.seq (.reg [q4] fun c r s K => c n55 [(r q0)] s fun v0 s => mt v0 (r q1) s fun v1 s => jn true v0 (fun j => c n55 [v1] s j) s fun v2 s => jt v0 (nott v2) s fun v3 s => pck v0 v3 ff fun v4 => mf v4 (r q0) s fun v5 s => mf v4 (r q1) s fun v6 s => jf v4 (binK .lss v5 v6) s fun v7 s => pck v4 tt v7 fun v8 => K [v8] s)
 .ret)), [(.tmp q4)], [q0, q1], [q5, q6, q7, q8, q9, q10, q11, q12, q13, q14, q15, q16]⟩
/- cmp.isNaN[int] -/
noncomputable def cf55 : HF := ⟨
(.seq (.reg [q2] fun c r s K => K [ff] s)
 (.seq (.reg [q2] fun c r s K => binK .neq (r q0) (r q0) fun v0 => K [v0] s)
 .ret)), [(.tmp q2)], [q0], [q3, q4, q5]⟩
/- slices.partialInsertionSortOrdered[int] -/
noncomputable def cf42 : HF := ⟨
(.seq (.reg [q6] fun c r s K => K [ff] s)
 (.seq (.reg [q7] fun c r s K => binK .add (r q1) I1 fun v0 => K [v0] s)
 (.seq (.seq (.reg [q8] fun c r s K => K [I0] s)
 (.block n0 (.loop (.seq (.seq (.reg [q14] fun c r s K => binK .lss (r q8) I5 fun v0 => K [v0] s)
 (.cond (.t q14) .skip
 (.exit n0)))
 (.seq (.block n1 (.seq (.block n2 (.loop (.seq (.seq (.drw [q32] fun c r s K => (fun z m => binK .lss (r q7) (r q2) fun v0 => jnD true v0 (fun jj => jj (r q0) m s) m s fun v1 m s => jnD true v0 (fun jj => jj (r q7) m s) m s fun v2 m s => jnD true v0 (fun jj => ixs n1 v1 v2 fun v => jj v m s) m s fun v3 m s => jnD true v0 (fun jj => dL z m n128 n127 s v3 jj) m s fun v4 m s => jnD true v0 (fun jj => jj (r q0) m s) m s fun v5 m s => jnD true v0 (fun jj => jj (r q7) m s) m s fun v6 m s => jnD true v0 (fun jj => binK .sub v6 I1 fun v => jj v m s) m s fun v7 m s => jnD true v0 (fun jj => ixs n1 v5 v7 fun v => jj v m s) m s fun v8 m s => jnD true v0 (fun jj => dL z m (nat_lit 4096) (nat_lit 3855) s v8 jj) m s fun v9 m s => jnD true v0 (fun jj => dw3 m (nat_lit 8192) (nat_lit 8191) s (fun s q => c n43 [v4, v9] s q) jj) m s fun v10 m s => jnD true v0 (fun jj => nott v10 fun v => jj v m s) m s fun v11 m s => pck v0 v11 ff fun v12 => K [v12] s) s.next mk0)
 (.cond (.t q32) .skip
 (.exit n2)))
 (.block n3 (.reg [q7] fun c r s K => binK .add (r q7) I1 fun v0 => K [v0] s)))))
 (.seq (.seq (.reg [q37] fun c r s K => binK .eql (r q7) (r q2) fun v0 => K [v0] s)
 (.cond (.t q37) (.seq (.reg [q6] fun c r s K => K [tt] s)
 .ret)
 .skip))
 (.seq (.seq (.reg [q41] fun c r s K => binK .sub (r q2) (r q1) fun v0 => binK .lss v0 (i6 n50) fun v1 => K [v1] s)
 (.cond (.t q41) (.seq (.reg [q6] fun c r s K => K [ff] s)
 .ret)
 .skip))
 (.seq (.drw [] fun c r s K => (fun z m => binK .sub (r q7) I1 fun v0 => binK .sub (r q7) I1 fun v1 => ixs n1 (r q0) v1 fun v2 => dL z m (nat_lit 512) (nat_lit 480) s v2 fun v3 m s => ixs n1 (r q0) (r q7) fun v4 => dL z m (nat_lit 8192) (nat_lit 7168) s v4 fun v5 m s => ixs n1 (r q0) (r q7) fun v6 => dS z m (nat_lit 32768) (nat_lit 32739) s n1 v6 v3 fun _ m s => ixs n1 (r q0) v0 fun v8 => dS z m (nat_lit 131072) (nat_lit 131071) s n1 v8 v5 fun _ m s => K [] s) s.next mk0)
 (.seq (.seq (.reg [q61] fun c r s K => binK .sub (r q7) (r q1) fun v0 => binK .geq v0 I2 fun v1 => K [v1] s)
 (.cond (.t q61) (.seq (.reg [q9] fun c r s K => binK .sub (r q7) I1 fun v0 => K [v0] s)
 (.block n4 (.loop (.seq (.seq (.reg [q65] fun c r s K => binK .geq (r q9) I1 fun v0 => K [v0] s)
 (.cond (.t q65) .skip
 (.exit n4)))
 (.seq (.block n5 (.seq (.seq (.drw [q78] fun c r s K => (fun z m => ixs n1 (r q0) (r q9) fun v0 => dL z m n8 n7 s v0 fun v1 m s => binK .sub (r q9) I1 fun v2 => ixs n1 (r q0) v2 fun v3 => dL z m (nat_lit 256) (nat_lit 240) s v3 fun v4 m s => dw3 m (nat_lit 512) (nat_lit 511) s (fun s q => c n43 [v1, v4] s q) fun v5 m s => nott v5 fun v6 => K [v6] s) s.next mk0)
 (.cond (.t q78) (.exit n4)
 .skip))
 (.drw [] fun c r s K => (fun z m => binK .sub (r q9) I1 fun v0 => binK .sub (r q9) I1 fun v1 => ixs n1 (r q0) v1 fun v2 => dL z m (nat_lit 512) (nat_lit 480) s v2 fun v3 m s => ixs n1 (r q0) (r q9) fun v4 => dL z m (nat_lit 8192) (nat_lit 7168) s v4 fun v5 m s => ixs n1 (r q0) (r q9) fun v6 => dS z m (nat_lit 32768) (nat_lit 32739) s n1 v6 v3 fun _ m s => ixs n1 (r q0) v0 fun v8 => dS z m (nat_lit 131072) (nat_lit 131071) s n1 v8 v5 fun _ m s => K [] s) s.next mk0)))
 (.reg [q9] fun c r s K => binK .sub (r q9) I1 fun v0 => K [v0] s))))))
 .skip))
 (.seq (.reg [q98] fun c r s K => binK .sub (r q2) (r q7) fun v0 => binK .geq v0 I2 fun v1 => K [v1] s)
 (.cond (.t q98) (.seq (.reg [q10] fun c r s K => binK .add (r q7) I1 fun v0 => K [v0] s)
 (.block n6 (.loop (.seq (.seq (.reg [q103] fun c r s K => binK .lss (r q10) (r q2) fun v0 => K [v0] s)
 (.cond (.t q103) .skip
 (.exit n6)))
 (.seq (.block n7 (.seq (.seq (.drw [q116] fun c r s K => (fun z m => ixs n1 (r q0) (r q10) fun v0 => dL z m n8 n7 s v0 fun v1 m s => binK .sub (r q10) I1 fun v2 => ixs n1 (r q0) v2 fun v3 => dL z m (nat_lit 256) (nat_lit 240) s v3 fun v4 m s => dw3 m (nat_lit 512) (nat_lit 511) s (fun s q => c n43 [v1, v4] s q) fun v5 m s => nott v5 fun v6 => K [v6] s) s.next mk0)
 (.cond (.t q116) (.exit n6)
 .skip))
 (.drw [] fun c r s K => (fun z m => binK .sub (r q10) I1 fun v0 => binK .sub (r q10) I1 fun v1 => ixs n1 (r q0) v1 fun v2 => dL z m (nat_lit 512) (nat_lit 480) s v2 fun v3 m s => ixs n1 (r q0) (r q10) fun v4 => dL z m (nat_lit 8192) (nat_lit 7168) s v4 fun v5 m s => ixs n1 (r q0) (r q10) fun v6 => dS z m (nat_lit 32768) (nat_lit 32739) s n1 v6 v3 fun _ m s => ixs n1 (r q0) v0 fun v8 => dS z m (nat_lit 131072) (nat_lit 131071) s n1 v8 v5 fun _ m s => K [] s) s.next mk0)))
 (.reg [q10] fun c r s K => binK .add (r q10) I1 fun v0 => K [v0] s))))))
 .skip))))))))
 (.reg [q8] fun c r s K => binK .add (r q8) I1 fun v0 => K [v0] s))))))
 (.seq (.reg [q6] fun c r s K => K [ff] s)
 .ret)))), [(.tmp q6)], [q0, q1, q2], [q11, q12, q13, q17, q18, q19, q20, q21, q22, q23, q24, q25, q26, q27, q28, q29, q30, q31, q33, q34, q35, q36, q38, q39, q40, q42, q43, q44, q45, q46, q47, q48, q49, q50, q51, q52, q53, q54, q55, q56, q57, q58, q59, q60, q62, q63, q64, q68, q69, q70, q71, q72, q73, q74, q75, q76, q77, q79, q80, q81, q82, q83, q84, q85, q86, q87, q88, q89, q90, q91, q92, q93, q94, q66, q67, q95, q96, q97, q99, q100, q101, q102, q106, q107, q108, q109, q110, q111, q112, q113, q114, q115, q117, q118, q119, q120, q121, q122, q123, q124, q125, q126, q127, q128, q129, q130, q131, q132, q104, q105, q15, q16]⟩
/- slices.reverseRangeOrdered[int] -/
noncomputable def cf41 : HF := ⟨
(.seq (.reg [q6] fun c r s K => K [(r q1)] s)
 (.seq (.reg [q7] fun c r s K => binK .sub (r q2) I1 fun v0 => K [v0] s)
 (.block n0 (.loop (.seq (.seq (.reg [q13] fun c r s K => binK .lss (r q6) (r q7) fun v0 => K [v0] s)
 (.cond (.t q13) .skip
 (.exit n0)))
 (.block n1 (.seq (.drw [] fun c r s K => (fun z m => ixs n1 (r q0) (r q7) fun v0 => dL z m n128 n112 s v0 fun v1 m s => ixs n1 (r q0) (r q6) fun v2 => dL z m (nat_lit 2048) (nat_lit 1792) s v2 fun v3 m s => ixs n1 (r q0) (r q6) fun v4 => dS z m (nat_lit 8192) (nat_lit 8179) s n1 v4 v1 fun _ m s => ixs n1 (r q0) (r q7) fun v6 => dS z m (nat_lit 32768) (nat_lit 32767) s n1 v6 v3 fun _ m s => K [] s) s.next mk0)
 (.seq (.reg [q6] fun c r s K => binK .add (r q6) I1 fun v0 => K [v0] s)
 (.reg [q7] fun c r s K => binK .sub (r q7) I1 fun v0 => K [v0] s))))))))), [], [q0, q1, q2], [q8, q9, q10, q11, q12, q14, q15, q16, q17, q18, q19, q20, q21, q22, q23, q24, q25, q26, q27, q28, q29, q30, q31]⟩
/- slices.choosePivotOrdered[int] -/
noncomputable def cf40 : HF := ⟨
(.seq (.reg [q6, q7] fun c r s K => K [I0, I0] s)
 (.seq (.reg [q8] fun c r s K => binK .sub (r q2) (r q1) fun v0 => K [v0] s)
 (.seq (.reg [q9] fun c r s K => alc s [zi] fun v0 s => K [v0] s)
 (.seq (.reg [q10] fun c r s K => binK .quo (r q8) I4 fun v0 => binK .mul v0 I1 fun v1 => binK .add (r q1) v1 fun v2 => K [v2] s)
 (.seq (.reg [q11] fun c r s K => binK .quo (r q8) I4 fun v0 => binK .mul v0 I2 fun v1 => binK .add (r q1) v1 fun v2 => K [v2] s)
 (.seq (.reg [q12] fun c r s K => binK .quo (r q8) I4 fun v0 => binK .mul v0 I3 fun v1 => binK .add (r q1) v1 fun v2 => K [v2] s)
 (.seq (.seq (.reg [q32] fun c r s K => binK .geq (r q8) I8 fun v0 => K [v0] s)
 (.cond (.t q32) (.seq (.seq (.reg [q34] fun c r s K => binK .geq (r q8) (i6 n50) fun v0 => K [v0] s)
 (.cond (.t q34) (.seq (.reg [q10] fun c r s K => c n53 [(r q0), (r q10), (r q9)] s fun v0 s => K [v0] s)
 (.seq (.reg [q11] fun c r s K => c n53 [(r q0), (r q11), (r q9)] s fun v0 s => K [v0] s)
 (.reg [q12] fun c r s K => c n53 [(r q0), (r q12), (r q9)] s fun v0 s => K [v0] s)))
 .skip))
 (.reg [q11] fun c r s K => c n54 [(r q0), (r q10), (r q11), (r q12), (r q9)] s fun v0 s => K [v0] s))
 .skip))
 (.seq (.reg [q49] fun c r s K => ld s (r q9) fun v0 => K [v0] s)
 (.block n0 (.seq (.reg [q51] fun c r s K => binK .eql (r q49) I0 fun v0 => K [v0] s)
 (.cond (.t q51) (.seq (.reg [q6, q7] fun c r s K => K [(r q11), I1] s)
 .ret)
 (.seq (.reg [q54] fun c r s K => binK .eql (r q49) I12 fun v0 => K [v0] s)
 (.cond (.t q54) (.seq (.reg [q6, q7] fun c r s K => K [(r q11), I2] s)
 .ret)
 (.seq (.reg [q6, q7] fun c r s K => K [(r q11), I0] s)
 .ret)))))))))))))), [(.tmp q6), (.tmp q7)], [q0, q1, q2], [q13, q14, q15, q16, q17, q18, q19, q20, q21, q22, q23, q24, q25, q26, q27, q28, q29, q30, q31, q33, q35, q36, q37, q38, q39, q40, q41, q42, q43, q44, q45, q46, q47, q48, q52, q53, q55, q56, q50]⟩
/- slices.medianOrdered[int] -/
noncomputable def cf54 : HF := ⟨
(.seq (.reg [q10] fun c r s K => K [I0] s)
 (.seq (.reg [q1, q2] fun c r s K => c n60 [(r q0), (r q1), (r q2), (r q4)] s fun v0 s => xE n0 v0 c r s fun v1 s => xE n1 v0 c r s fun v2 s => K [v1, v2] s)
 (.seq (.reg [q2, q3] fun c r s K => c n60 [(r q0), (r q2), (r q3), (r q4)] s fun v0 s => xE n0 v0 c r s fun v1 s => xE n1 v0 c r s fun v2 s => K [v1, v2] s)
 (.seq (.reg [q1, q2] fun c r s K => c n60 [(r q0), (r q1), (r q2), (r q4)] s fun v0 s => xE n0 v0 c r s fun v1 s => xE n1 v0 c r s fun v2 s => K [v1, v2] s)
 (.seq (.reg [q10] fun c r s K => K [(r q2)] s)
 .ret))))), [(.tmp q10)], [q0, q1, q2, q3, q4], [q12, q13, q14, q15, q16, q11, q17, q18, q20, q21, q22, q23, q24, q19, q25, q26, q28, q29, q30, q31, q32, q27, q33, q34, q35]⟩
/- slices.order2Ordered[int] -/
noncomputable def cf60 : HF := ⟨
(.seq (.reg [q8, q9] fun c r s K => K [I0, I0] s)
 (.seq (.seq (.drw [q18] fun c r s K => (fun z m => ixs n1 (r q0) (r q2) fun v0 => dL z m n8 n7 s v0 fun v1 m s => ixs n1 (r q0) (r q1) fun v2 => dL z m n128 n112 s v2 fun v3 m s => dw3 m (nat_lit 256) (nat_lit 255) s (fun s q => c n43 [v1, v3] s q) fun v4 m s => K [v4] s) s.next mk0)
 (.cond (.t q18) (.seq (.reg [] fun c r s K => xC (r q3) c r s fun v0 s => ld s v0 fun v1 => binK .add v1 I1 fun v2 => xC (r q3) c r s fun v3 s => sto s n1 v3 v2 fun s => K [] s)
 (.seq (.reg [q8, q9] fun c r s K => K [(r q2), (r q1)] s)
 .ret))
 .skip))
 (.seq (.reg [q8, q9] fun c r s K => K [(r q1), (r q2)] s)
 .ret))), [(.tmp q8), (.tmp q9)], [q0, q1, q2, q3], [q10, q11, q12, q13, q14, q15, q16, q17, q19, q20, q21, q22, q23, q24, q25, q26, q27]⟩
/- slices.medianAdjacentOrdered[int] -/
noncomputable def cf53 : HF := ⟨
(.seq (.reg [q6] fun c r s K => K [I0] s)
 (.seq (.reg [q6] fun c r s K => binK .sub (r q1) I1 fun v0 => binK .add (r q1) I1 fun v1 => c n54 [(r q0), v0, (r q1), v1, (r q2)] s fun v2 s => K [v2] s)
 .ret)), [(.tmp q6)], [q0, q1, q2], [q7, q8, q9, q10, q11, q12, q13, q14]⟩
/- slices.breakPatternsOrdered[int] -/
noncomputable def cf39 : HF := ⟨
(.seq (.reg [q6] fun c r s K => binK .sub (r q2) (r q1) fun v0 => K [v0] s)
 (.seq (.reg [q15] fun c r s K => binK .geq (r q6) I8 fun v0 => K [v0] s)
 (.cond (.t q15) (.seq (.reg [q7] fun c r s K => cnv .u64 (r q6) fun v0 => alc s [zu] fun v1 s => sto s n1 v1 v0 fun s => K [v1] s)
 (.seq (.reg [q8] fun c r s K => c n51 [(r q6)] s fun v0 s => K [v0] s)
 (.seq (.reg [q9] fun c r s K => binK .quo (r q6) I4 fun v0 => binK .mul v0 I2 fun v1 => binK .add (r q1) v1 fun v2 => binK .sub v2 I1 fun v3 => K [v3] s)
 (.block n0 (.loop (.seq (.seq (.reg [q33] fun c r s K => binK .quo (r q6) I4 fun v0 => binK .mul v0 I2 fun v1 => binK .add (r q1) v1 fun v2 => binK .add v2 I1 fun v3 => binK .leq (r q9) v3 fun v4 => K [v4] s)
 (.cond (.t q33) .skip
 (.exit n0)))
 (.seq (.block n1 (.seq (.reg [q10] fun c r s K => c n52 [(r q7)] s fun v0 s => binK .sub (r q8) U1 fun v1 => binK .and v0 v1 fun v2 => cnv .i64 v2 fun v3 => K [v3] s)
 (.seq (.seq (.reg [q43] fun c r s K => binK .geq (r q10) (r q6) fun v0 => K [v0] s)
 (.cond (.t q43) (.reg [q10] fun c r s K => binK .sub (r q10) (r q6) fun v0 => K [v0] s)
 .skip))
 (.drw [] fun c r s K => (fun z m => binK .add (r q1) (r q10) fun v0 => binK .add (r q1) (r q10) fun v1 => ixs n1 (r q0) v1 fun v2 => dL z m (nat_lit 2048) (nat_lit 1984) s v2 fun v3 m s => ixs n1 (r q0) (r q9) fun v4 => dL z m (nat_lit 32768) (nat_lit 28672) s v4 fun v5 m s => ixs n1 (r q0) (r q9) fun v6 => dS z m (nat_lit 131072) (nat_lit 131011) s n1 v6 v3 fun _ m s => ixs n1 (r q0) v0 fun v8 => dS z m (nat_lit 524288) (nat_lit 524287) s n1 v8 v5 fun _ m s => K [] s) s.next mk0))))
 (.reg [q9] fun c r s K => binK .add (r q9) I1 fun v0 => K [v0] s))))))))
 .skip))), [], [q0, q1, q2], [q11, q12, q13, q14, q16, q17, q18, q19, q20, q21, q22, q23, q24, q25, q26, q27, q28, q29, q30, q31, q32, q36, q37, q38, q39, q40, q41, q42, q44, q45, q46, q47, q48, q49, q50, q51, q52, q53, q54, q55, q56, q57, q58, q59, q60, q61, q62, q63, q64, q34, q35]⟩
/- (*slices.xorshift).Next -/
noncomputable def cf52 : HF := ⟨
(.seq (.reg [q2] fun c r s K => K [U0] s)
 (.seq (.drw [] fun c r s K => (fun z m => xC (r q0) c r s fun v0 s => dL z m n4 n3 s v0 fun v1 m s => xC (r q0) c r s fun v2 s => dL z m n32 n24 s v2 fun v3 m s => xS true v3 U13 c r s fun v4 s => binK .xor v1 v4 fun v5 => xC (r q0) c r s fun v6 s => dS z m (nat_lit 512) (nat_lit 511) s n1 v6 v5 fun _ m s => K [] s) s.next mk0)
 (.seq (.drw [] fun c r s K => (fun z m => xC (r q0) c r s fun v0 s => dL z m n4 n3 s v0 fun v1 m s => xC (r q0) c r s fun v2 s => dL z m n32 n24 s v2 fun v3 m s => xS false v3 U7 c r s fun v4 s => binK .xor v1 v4 fun v5 => xC (r q0) c r s fun v6 s => dS z m (nat_lit 512) (nat_lit 511) s n1 v6 v5 fun _ m s => K [] s) s.next mk0)
 (.seq (.drw [] fun c r s K => (fun z m => xC (r q0) c r s fun v0 s => dL z m n4 n3 s v0 fun v1 m s => xC (r q0) c r s fun v2 s => dL z m n32 n24 s v2 fun v3 m s => xS true v3 U17 c r s fun v4 s => binK .xor v1 v4 fun v5 => xC (r q0) c r s fun v6 s => dS z m (nat_lit 512) (nat_lit 511) s n1 v6 v5 fun _ m s => K [] s) s.next mk0)
 (.seq (.reg [q2] fun c r s K => xC (r q0) c r s fun v0 s => ld s v0 fun v1 => K [v1] s)
 .ret))))), [(.tmp q2)], [q0], [q3, q4, q5, q6, q7, q8, q9, q10, q11, q12, q13, q14, q15, q16, q17, q18, q19, q20, q21, q22, q23, q24, q25, q26, q27, q28, q29, q30, q31, q32]⟩
end Go.Proofs.YtlgedjkkodhdnadDoor.Ev
