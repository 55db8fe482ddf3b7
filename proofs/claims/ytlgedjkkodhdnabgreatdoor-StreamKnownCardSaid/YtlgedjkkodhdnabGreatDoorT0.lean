/- Compiled functions of the translated program, and that each is what the compiler makes of it; no conditions. -/
import Derived.Test.YtlgedjkkodhdnabGreatDoorEvC
import Derived.KernelRfl
namespace Go.Proofs.YtlgedjkkodhdnabGreatDoor.Ev
set_option maxRecDepth 100000
set_option linter.unusedVariables false
/- attestor/attestorlaw19.StreamKnown -/
noncomputable def cf3 : HF := ⟨
(.seq (.reg [q0] fun c r s K => K [ff] s)
 (.seq (.reg [q2] fun c r s K => c n5 [] s fun v0 s => h_op3_buildS n1 n1 [zu] [(n0, n1, (.c U1))] c r s fun v1 s => c n4 [v0, v1] s fun v2 s => xE n0 v2 c r s fun v3 s => xE n1 v2 c r s fun v4 s => K [v4] s)
 (.seq (.reg [q4] fun c r s K => h_op3_build [zi, zi, zi, zi, zi, zi, zi, zi, zn, zn, zn, zn, zi, zn] [] c r s fun v0 s => c n6 [v0] s fun v1 s => xE n0 v1 c r s fun v2 s => xE n1 v1 c r s fun v3 s => K [v3] s)
 (.seq (.reg [q6] fun c r s K => h_op3_build [zi, zi, zi, zi, zi, zi, zi, zi, zn, zn, zn, zn, zi, zn] [] c r s fun v0 s => c n4 [v0, (.sc zn)] s fun v1 s => xE n0 v1 c r s fun v2 s => xE n1 v1 c r s fun v3 s => K [v3] s)
 (.seq (.reg [q7, q8] fun c r s K => c n5 [] s fun v0 s => c n4 [v0, (.sc zn)] s fun v1 s => xE n0 v1 c r s fun v2 s => xE n1 v1 c r s fun v3 s => K [v2, v3] s)
 (.seq (.seq (.reg [q59] fun c r s K => binK .neq (r q2) I1 fun v0 => mf v0 (r q4) s fun v1 s => jf v0 (binK .neq v1 I1) s fun v2 s => pck v0 tt v2 fun v3 => mf v3 (r q6) s fun v4 s => jf v3 (binK .neq v4 I1) s fun v5 s => pck v3 tt v5 fun v6 => mf v6 (r q8) s fun v7 s => jf v6 (binK .neq v7 I0) s fun v8 s => pck v6 tt v8 fun v9 => K [v9] s)
 (.cond (.t q59) (.seq (.reg [q0] fun c r s K => K [ff] s)
 .ret)
 .skip))
 (.seq (.reg [] fun c r s K => h_op3_buildS n3 n1 [zb, zb, zb] [(n0, n1, (.c B0)), (n1, n1, (.c B0)), (n2, n1, (.c B0))] c r s fun v0 s => c n7 [(r q7), v0] s fun v1 s => K [] s)
 (.seq (.reg [q9, q10] fun c r s K => c n8 [(r q7)] s fun v0 s => xE n0 v0 c r s fun v1 s => xE n1 v0 c r s fun v2 s => K [v1, v2] s)
 (.seq (.reg [q11] fun c r s K => binK .eql (r q9) I5 fun v0 => mt v0 (r q10) s fun v1 s => jt v0 (binK .eql v1 I3) s fun v2 s => pck v0 v2 ff fun v3 => mt v3 (r q7) s fun v4 s => jn true v3 (fun j => c n9 [v4] s j) s fun v5 s => jt v3 (binK .eql v5 I0) s fun v6 s => pck v3 v6 ff fun v7 => mt v7 (r q7) s fun v8 s => jn true v7 (fun j => c n10 [v8] s j) s fun v9 s => jt v7 (binK .eql v9 (i6 (nat_lit 173))) s fun v10 s => pck v7 v10 ff fun v11 => K [v11] s)
 (.seq (.reg [] fun c r s K => h_op3_buildS n1 n1 [zb] [(n0, n1, (.c B1))] c r s fun v0 s => c n7 [(r q7), v0] s fun v1 s => K [] s)
 (.seq (.reg [q12, q13] fun c r s K => c n8 [(r q7)] s fun v0 s => xE n0 v0 c r s fun v1 s => xE n1 v0 c r s fun v2 s => K [v1, v2] s)
 (.seq (.reg [q11] fun c r s K => mt (r q11) (r q12) s fun v0 s => jt (r q11) (binK .eql v0 I2) s fun v1 s => pck (r q11) v1 ff fun v2 => mt v2 (r q13) s fun v3 s => jt v2 (binK .eql v3 I0) s fun v4 s => pck v2 v4 ff fun v5 => mt v5 (r q7) s fun v6 s => jn true v5 (fun j => c n10 [v6] s j) s fun v7 s => jt v5 (binK .eql v7 I0) s fun v8 s => pck v5 v8 ff fun v9 => mt v9 (r q7) s fun v10 s => jn true v9 (fun j => c n9 [v10] s j) s fun v11 s => jt v9 (binK .eql v11 I0) s fun v12 s => pck v9 v12 ff fun v13 => K [v13] s)
 (.seq (.reg [q14] fun c r s K => c n5 [] s fun v0 s => c n4 [v0, (.sc zn)] s fun v1 s => xE n0 v1 c r s fun v2 s => xE n1 v1 c r s fun v3 s => K [v2] s)
 (.seq (.reg [] fun c r s K => xM n1 n1 [zb] (i6 (nat_lit 177)) (i6 (nat_lit 177)) c r s fun v0 s => c n7 [(r q14), v0] s fun v1 s => K [] s)
 (.seq (.reg [q16, q17] fun c r s K => c n8 [(r q14)] s fun v0 s => xE n0 v0 c r s fun v1 s => xE n1 v0 c r s fun v2 s => K [v1, v2] s)
 (.seq (.reg [q18] fun c r s K => K [(.sc .nilp)] s)
 (.seq (.reg [q19] fun c r s K => alc s [zi, zi, zi, zi, zi, zi, zi, zi, zn, zn, zn, zn, zi, zn, zi, zi, zi, zi, zi, zi, zi, zi, zi, zn, zi, zi, zi, zi, zn, zi, zi, (.lit .nilFunc), zi, zu, zu, zu, zu, zn, zu, zu, zn, (.bool false), zn, zi, zi, zi] fun v0 s => K [v0] s)
 (.seq (.reg [] fun c r s K => h_op3_buildS n1 n1 [zb] [(n0, n1, (.c B1))] c r s fun v0 s => c n7 [(r q18), v0] s fun v1 s => K [] s)
 (.seq (.reg [] fun c r s K => h_op3_buildS n1 n1 [zb] [(n0, n1, (.c B1))] c r s fun v0 s => c n7 [(r q19), v0] s fun v1 s => K [] s)
 (.seq (.reg [q20, q21] fun c r s K => c n8 [(r q18)] s fun v0 s => xE n0 v0 c r s fun v1 s => xE n1 v0 c r s fun v2 s => K [v1, v2] s)
 (.seq (.reg [q22, q23] fun c r s K => c n8 [(r q19)] s fun v0 s => xE n0 v0 c r s fun v1 s => xE n1 v0 c r s fun v2 s => K [v1, v2] s)
 (.seq (.reg [q24] fun c r s K => binK .eql (r q16) I3 fun v0 => mt v0 (r q17) s fun v1 s => jt v0 (binK .eql v1 (i6 (nat_lit 176))) s fun v2 s => pck v0 v2 ff fun v3 => mt v3 (r q14) s fun v4 s => jn true v3 (fun j => c n9 [v4] s j) s fun v5 s => jt v3 (binK .eql v5 I14) s fun v6 s => pck v3 v6 ff fun v7 => mt v7 (r q14) s fun v8 s => jn true v7 (fun j => c n10 [v8] s j) s fun v9 s => jt v7 (binK .eql v9 I0) s fun v10 s => pck v7 v10 ff fun v11 => mt v11 (r q20) s fun v12 s => jt v11 (binK .eql v12 I10) s fun v13 s => pck v11 v13 ff fun v14 => mt v14 (r q21) s fun v15 s => jt v14 (binK .eql v15 I0) s fun v16 s => pck v14 v16 ff fun v17 => mt v17 (r q22) s fun v18 s => jt v17 (binK .eql v18 I10) s fun v19 s => pck v17 v19 ff fun v20 => mt v20 (r q23) s fun v21 s => jt v20 (binK .eql v21 I0) s fun v22 s => pck v20 v22 ff fun v23 => K [v23] s)
 (.seq (.reg [q0] fun c r s K => mt (r q11) (r q24) s fun v0 s => pck (r q11) v0 ff fun v1 => mt v1 (r q18) s fun v2 s => jn true v1 (fun j => c n11 [v2] s j) s fun v3 s => jt v1 (binK .eql v3 I10) s fun v4 s => pck v1 v4 ff fun v5 => jn true v5 (fun j => c n11 [(r q19)] s j) s fun v6 s => jt v5 (binK .eql v6 I10) s fun v7 s => pck v5 v7 ff fun v8 => mt v8 (r q18) s fun v9 s => jn true v8 (fun j => c n9 [v9] s j) s fun v10 s => jt v8 (binK .eql v10 I0) s fun v11 s => pck v8 v11 ff fun v12 => jn true v12 (fun j => c n9 [(r q19)] s j) s fun v13 s => jt v12 (binK .eql v13 I0) s fun v14 s => pck v12 v14 ff fun v15 => mt v15 (r q18) s fun v16 s => jn true v15 (fun j => c n10 [v16] s j) s fun v17 s => jt v15 (binK .eql v17 I0) s fun v18 s => pck v15 v18 ff fun v19 => jn true v19 (fun j => c n10 [(r q19)] s j) s fun v20 s => jt v19 (binK .eql v20 I0) s fun v21 s => pck v19 v21 ff fun v22 => jn true v22 (fun j => c n12 [] s j) s fun v23 s => pck v22 v23 ff fun v24 => K [v24] s)
 .ret))))))))))))))))))))))), [(.tmp q0)], [], [q26, q27, q28, q25, q29, q30, q1, q32, q33, q31, q34, q35, q3, q37, q38, q36, q39, q40, q5, q42, q43, q41, q44, q45, q46, q47, q48, q49, q50, q51, q52, q53, q54, q55, q56, q57, q58, q60, q61, q62, q64, q65, q63, q66, q67, q68, q69, q70, q71, q72, q73, q74, q75, q76, q77, q78, q79, q80, q81, q82, q83, q84, q85, q86, q88, q89, q87, q90, q91, q92, q93, q94, q95, q96, q97, q98, q99, q100, q101, q102, q103, q104, q105, q106, q107, q108, q109, q110, q112, q113, q111, q114, q115, q15, q116, q117, q118, q120, q121, q119, q122, q123, q124, q125, q126, q127, q128, q130, q131, q129, q132, q133, q135, q134, q136, q137, q138, q139, q140, q141, q142, q143, q144, q145, q146, q147, q148, q149, q150, q151, q152, q153, q154, q155, q156, q157, q158, q159, q160, q161, q162, q163, q164, q165, q166, q167, q168, q169, q170, q171, q172, q173, q174, q175, q176, q177, q178, q179, q180, q181, q182, q183, q184, q185, q186, q187, q188, q189, q190, q191, q192, q193, q194, q195, q196, q197, q198, q199, q200, q201, q202, q203]⟩
/- attestor/attestorlaw19.lives -/
noncomputable def cf12 : HF := ⟨
(.seq (.reg [q0] fun c r s K => K [ff] s)
 (.seq (.reg [q1, q2] fun c r s K => c n5 [] s fun v0 s => c n6 [v0] s fun v1 s => xE n0 v1 c r s fun v2 s => xE n1 v1 c r s fun v3 s => K [v2, v3] s)
 (.seq (.reg [q3, q4] fun c r s K => c n5 [] s fun v0 s => c n4 [v0, (.sc zn)] s fun v1 s => xE n0 v1 c r s fun v2 s => xE n1 v1 c r s fun v3 s => K [v2, v3] s)
 (.seq (.seq (.reg [q40] fun c r s K => binK .neq (r q2) I0 fun v0 => mf v0 (r q1) s fun v1 s => jf v0 (binK .neq v1 I29) s fun v2 s => pck v0 tt v2 fun v3 => mf v3 (r q4) s fun v4 s => jf v3 (binK .neq v4 I0) s fun v5 s => pck v3 tt v5 fun v6 => mf v6 (r q3) s fun v7 s => jn false v6 (fun j => h_op4_eqv .ptr false (.c v7) (.c (.sc .nilp)) c r s j) s fun v8 s => pck v6 tt v8 fun v9 => mf v9 (r q3) s fun v10 s => jn false v9 (fun j => c n10 [v10] s j) s fun v11 s => jf v9 (binK .neq v11 (i6 (nat_lit 176))) s fun v12 s => pck v9 tt v12 fun v13 => mf v13 (r q3) s fun v14 s => jn false v13 (fun j => c n9 [v14] s j) s fun v15 s => jf v13 (binK .neq v15 I0) s fun v16 s => pck v13 tt v16 fun v17 => K [v17] s)
 (.cond (.t q40) (.seq (.reg [q0] fun c r s K => K [ff] s)
 .ret)
 .skip))
 (.seq (.reg [] fun c r s K => xM n1 n1 [zb] (i6 n58) (i6 n58) c r s fun v0 s => c n7 [(r q3), v0] s fun v1 s => K [] s)
 (.seq (.reg [q5, q6] fun c r s K => c n8 [(r q3)] s fun v0 s => xE n0 v0 c r s fun v1 s => xE n1 v0 c r s fun v2 s => K [v1, v2] s)
 (.seq (.reg [q0] fun c r s K => binK .eql (r q5) I5 fun v0 => mt v0 (r q6) s fun v1 s => jt v0 (binK .eql v1 (i6 n58)) s fun v2 s => pck v0 v2 ff fun v3 => mt v3 (r q3) s fun v4 s => jn true v3 (fun j => c n9 [v4] s j) s fun v5 s => jt v3 (binK .eql v5 I14) s fun v6 s => pck v3 v6 ff fun v7 => mt v7 (r q3) s fun v8 s => jn true v7 (fun j => c n10 [v8] s j) s fun v9 s => jt v7 (binK .eql v9 (i6 n118)) s fun v10 s => pck v7 v10 ff fun v11 => K [v11] s)
 .ret))))))), [(.tmp q0)], [], [q8, q9, q7, q10, q11, q13, q14, q12, q15, q16, q17, q18, q19, q20, q21, q22, q23, q24, q25, q26, q27, q28, q29, q30, q31, q32, q33, q34, q35, q36, q37, q38, q39, q41, q42, q43, q45, q46, q44, q47, q48, q49, q50, q51, q52, q53, q54, q55, q56, q57, q58, q59, q60, q61, q62, q63, q64]⟩
/- (*attestor/stream.Checker).Early -/
noncomputable def cf11 : HF := ⟨
(.seq (.reg [q2] fun c r s K => K [I0] s)
 (.seq (.seq (.reg [q5] fun c r s K => c n20 [(r q0)] s fun v0 s => nott v0 fun v1 => K [v1] s)
 (.cond (.t q5) (.seq (.reg [q2] fun c r s K => K [I10] s)
 .ret)
 .skip))
 (.seq (.reg [q2] fun c r s K => xC (r q0) c r s fun v0 s => fad n43 v0 fun v1 => ld s v1 fun v2 => K [v2] s)
 .ret))), [(.tmp q2)], [q0], [q3, q4, q6, q7, q8, q9]⟩
/- (*attestor/stream.Checker).made -/
noncomputable def cf20 : HF := ⟨
(.seq (.reg [q2] fun c r s K => K [ff] s)
 (.seq (.reg [q2] fun c r s K => h_op4_eqv .ptr true (.c (r q0)) (.c (.sc .nilp)) c r s fun v0 s => mt v0 (r q0) s fun v1 s => jn true v0 (fun j => xC v1 c r s j) s fun v2 s => jt v0 (fad n31 v2) s fun v3 s => jt v0 (ld s v3) s fun v4 s => jn true v0 (fun j => h_op4_eqv .func true (.c v4) (.c (.sc (.lit .nilFunc))) c r s j) s fun v5 s => pck v0 v5 ff fun v6 => K [v6] s)
 .ret)), [(.tmp q2)], [q0], [q3, q4, q5, q6, q7, q8, q9, q10, q11]⟩
/- (*attestor/stream.Checker).Need -/
noncomputable def cf10 : HF := ⟨
(.seq (.reg [q2] fun c r s K => K [I0] s)
 (.seq (.seq (.reg [q12] fun c r s K => c n20 [(r q0)] s fun v0 s => nott v0 fun v1 => mf v1 (r q0) s fun v2 s => jn false v1 (fun j => xC v2 c r s j) s fun v3 s => jf v1 (fad n44 v3) s fun v4 s => jf v1 (ld s v4) s fun v5 s => jf v1 (binK .neq v5 I0) s fun v6 s => pck v1 tt v6 fun v7 => K [v7] s)
 (.cond (.t q12) (.seq (.reg [q2] fun c r s K => K [I0] s)
 .ret)
 .skip))
 (.seq (.drw [q2] fun c r s K => (fun z m => xC (r q0) c r s fun v0 s => fad n27 v0 fun v1 => dL z m n8 n7 s v1 fun v2 m s => xC (r q0) c r s fun v3 s => fad n29 v3 fun v4 => dL z m n128 n112 s v4 fun v5 m s => binK .sub v2 v5 fun v6 => K [v6] s) s.next mk0)
 .ret))), [(.tmp q2)], [q0], [q3, q4, q5, q6, q7, q8, q9, q10, q11, q13, q14, q15, q16, q17, q18, q19, q20, q21]⟩
/- (*attestor/stream.Checker).Kept -/
noncomputable def cf9 : HF := ⟨
(.seq (.reg [q2] fun c r s K => K [I0] s)
 (.seq (.seq (.reg [q5] fun c r s K => c n20 [(r q0)] s fun v0 s => nott v0 fun v1 => K [v1] s)
 (.cond (.t q5) (.seq (.reg [q2] fun c r s K => K [I0] s)
 .ret)
 .skip))
 (.seq (.reg [q2] fun c r s K => xC (r q0) c r s fun v0 s => fad n28 v0 fun v1 => ld s v1 fun v2 => lnS v2 fun v3 => binK .quo v3 I4 fun v4 => K [v4] s)
 .ret))), [(.tmp q2)], [q0], [q3, q4, q6, q7, q8, q9, q10, q11]⟩
/- (*attestor/stream.Checker).Verdict -/
noncomputable def cf8 : HF := ⟨
(.seq (.reg [q2, q3] fun c r s K => K [I0, I0] s)
 (.seq (.block n0 (.seq (.reg [q4] fun c r s K => c n20 [(r q0)] s fun v0 s => nott v0 fun v1 => K [v1] s)
 (.cond (.t q4) (.seq (.reg [q2, q3] fun c r s K => K [I10, I0] s)
 .ret)
 (.seq (.reg [q8] fun c r s K => xC (r q0) c r s fun v0 s => fad n44 v0 fun v1 => ld s v1 fun v2 => binK .neq v2 I0 fun v3 => K [v3] s)
 (.cond (.t q8) (.seq (.drw [q2, q3] fun c r s K => (fun z m => xC (r q0) c r s fun v0 s => fad n44 v0 fun v1 => dL z m n8 n7 s v1 fun v2 m s => xC (r q0) c r s fun v3 s => fad n45 v3 fun v4 => dL z m n128 n112 s v4 fun v5 m s => K [v2, v5] s) s.next mk0)
 .ret)
 (.seq (.drw [q22] fun c r s K => (fun z m => xC (r q0) c r s fun v0 s => fad n29 v0 fun v1 => dL z m n8 n7 s v1 fun v2 m s => xC (r q0) c r s fun v3 s => fad n27 v3 fun v4 => dL z m n128 n112 s v4 fun v5 m s => binK .lss v2 v5 fun v6 => K [v6] s) s.next mk0)
 (.cond (.t q22) (.seq (.drw [q2, q3] fun c r s K => (fun z m => xC (r q0) c r s fun v0 s => fad n29 v0 fun v1 => dL z m n8 n7 s v1 fun v2 m s => K [I5, v2] s) s.next mk0)
 .ret)
 .skip)))))))
 (.seq (.reg [q2, q3] fun c r s K => xC (r q0) c r s fun v0 s => fad n43 v0 fun v1 => ld s v1 fun v2 => K [v2, I0] s)
 .ret))), [(.tmp q2), (.tmp q3)], [q0], [q5, q6, q7, q9, q10, q11, q12, q13, q14, q15, q16, q17, q18, q19, q20, q21, q23, q24, q25, q26, q27, q28, q29, q30, q31, q32, q33, q34, q35, q36, q37, q38, q39]⟩
/- (*attestor/stream.Checker).Write -/
noncomputable def cf7 : HF := ⟨
(.seq (.seq (.reg [q8] fun c r s K => c n20 [(r q0)] s fun v0 s => nott v0 fun v1 => K [v1] s)
 (.cond (.t q8) .ret
 .skip))
 (.seq (.reg [q9, q10, q11] fun c r s K => lnS (r q1) fun v0 => K [(r q1), v0, I0] s)
 (.block n0 (.loop (.seq (.reg [q12] fun c r s K => binK .lss (r q11) (r q10) fun v0 => K [v0] s)
 (.seq (.cond (.t q12) .skip
 (.exit n0))
 (.seq (.block n1 (.seq (.reg [q5] fun c r s K => ixs n1 (r q9) (r q11) fun v0 => ld s v0 fun v1 => K [v1] s)
 (.seq (.seq (.reg [q19] fun c r s K => xC (r q0) c r s fun v0 s => fad n44 v0 fun v1 => ld s v1 fun v2 => binK .neq v2 I0 fun v3 => K [v3] s)
 (.cond (.t q19) .ret
 .skip))
 (.reg [] fun c r s K => c n21 [(r q0), (r q5)] s fun v0 s => K [] s))))
 (.reg [q11] fun c r s K => binK .add (r q11) I1 fun v0 => K [v0] s)))))))), [], [q0, q1], [q6, q7, q13, q14, q15, q16, q17, q18, q20, q21, q22, q23]⟩
/- (*attestor/stream.Checker).take -/
noncomputable def cf21 : HF := ⟨
(.seq (.seq (.drw [q16] fun c r s K => (fun z m => xC (r q0) c r s fun v0 s => fad n29 v0 fun v1 => dL z m n8 n7 s v1 fun v2 m s => xC (r q0) c r s fun v3 s => fad n27 v3 fun v4 => dL z m n128 n112 s v4 fun v5 m s => binK .eql v2 v5 fun v6 => K [v6] s) s.next mk0)
 (.cond (.t q16) (.seq (.reg [] fun c r s K => xC (r q0) c r s fun v0 s => fad n27 v0 fun v1 => ld s v1 fun v2 => xC (r q0) c r s fun v3 s => fad n44 v3 fun v4 => sto s n1 v4 I3 fun s => xC (r q0) c r s fun v6 s => fad n45 v6 fun v7 => sto s n1 v7 v2 fun s => K [] s)
 .ret)
 .skip))
 (.seq (.reg [] fun c r s K => xC (r q0) c r s fun v0 s => fad n28 v0 fun v1 => ld s v1 fun v2 => h_op3_buildS n1 n1 [zb] [(n0, n1, (.c (r q1)))] c r s fun v3 s => xA n1 n1 v2 v3 c r s fun v4 s => xC (r q0) c r s fun v5 s => fad n28 v5 fun v6 => sto s n1 v6 v4 fun s => K [] s)
 (.seq (.reg [] fun c r s K => xC (r q0) c r s fun v0 s => fad n29 v0 fun v1 => ld s v1 fun v2 => binK .add v2 I1 fun v3 => xC (r q0) c r s fun v4 s => fad n29 v4 fun v5 => sto s n1 v5 v3 fun s => K [] s)
 (.seq (.seq (.reg [q49] fun c r s K => xC (r q0) c r s fun v0 s => fad n29 v0 fun v1 => ld s v1 fun v2 => binK .rem v2 I4 fun v3 => binK .neq v3 I0 fun v4 => K [v4] s)
 (.cond (.t q49) .ret
 .skip))
 (.seq (.reg [q4] fun c r s K => K [U0] s)
 (.seq (.reg [q5] fun c r s K => xC (r q0) c r s fun v0 s => fad n28 v0 fun v1 => ld s v1 fun v2 => lnS v2 fun v3 => binK .sub v3 I4 fun v4 => K [v4] s)
 (.seq (.seq (.reg [q61, q62, q63] fun c r s K => xC (r q0) c r s fun v0 s => fad n28 v0 fun v1 => ld s v1 fun v2 => h_op3_sliceS n1 (.c v2) (some (.c (r q5))) none none c r s fun v3 s => lnS v3 fun v4 => K [v3, v4, I0] s)
 (.block n0 (.loop (.seq (.reg [q64] fun c r s K => binK .lss (r q63) (r q62) fun v0 => K [v0] s)
 (.seq (.cond (.t q64) .skip
 (.exit n0))
 (.seq (.block n1 (.seq (.reg [q6, q7] fun c r s K => ixs n1 (r q61) (r q63) fun v0 => ld s v0 fun v1 => K [(r q63), v1] s)
 (.reg [q4] fun c r s K => cnv .u64 (r q7) fun v0 => binK .mul I8 (r q6) fun v1 => xS true v0 v1 c r s fun v2 s => binK .or (r q4) v2 fun v3 => K [v3] s)))
 (.reg [q63] fun c r s K => binK .add (r q63) I1 fun v0 => K [v0] s)))))))
 (.seq (.seq (.reg [q83] fun c r s K => xC (r q0) c r s fun v0 s => fad n14 v0 fun v1 => fad n0 v1 fun v2 => ld s v2 fun v3 => c n24 [v3] s fun v4 s => binK .geq (r q4) v4 fun v5 => K [v5] s)
 (.cond (.t q83) (.seq (.reg [] fun c r s K => xC (r q0) c r s fun v0 s => fad n29 v0 fun v1 => ld s v1 fun v2 => binK .sub v2 I4 fun v3 => xC (r q0) c r s fun v4 s => fad n44 v4 fun v5 => sto s n1 v5 I2 fun s => xC (r q0) c r s fun v7 s => fad n45 v7 fun v8 => sto s n1 v8 v3 fun s => K [] s)
 (.seq (.reg [] fun c r s K => xC (r q0) c r s fun v0 s => fad n28 v0 fun v1 => ld s v1 fun v2 => h_op3_sliceS n1 (.c v2) none (some (.c (r q5))) none c r s fun v3 s => xC (r q0) c r s fun v4 s => fad n28 v4 fun v5 => sto s n1 v5 v3 fun s => K [] s)
 .ret))
 .skip))
 (.seq (.drw [q113] fun c r s K => (fun z m => xC (r q0) c r s fun v0 s => fad n28 v0 fun v1 => dL z m n8 n7 s v1 fun v2 m s => lnS v2 fun v3 => xC (r q0) c r s fun v4 s => fad n30 v4 fun v5 => dL z m (nat_lit 256) (nat_lit 224) s v5 fun v6 m s => binK .eql v3 v6 fun v7 => K [v7] s) s.next mk0)
 (.cond (.t q113) (.reg [] fun c r s K => xC (r q0) c r s fun v0 s => fad n31 v0 fun v1 => ld s v1 fun v2 => h_op4_callV (.c v2) [(.c (r q0))] c r s fun v3 s => K [] s)
 .skip)))))))))), [], [q0, q1], [q8, q9, q10, q11, q12, q13, q14, q15, q17, q18, q19, q20, q21, q22, q23, q24, q25, q26, q27, q28, q29, q30, q31, q32, q33, q34, q35, q36, q37, q38, q39, q40, q41, q42, q43, q44, q45, q46, q47, q48, q50, q51, q52, q53, q54, q55, q56, q57, q58, q59, q60, q65, q66, q67, q68, q69, q70, q71, q72, q73, q74, q75, q76, q77, q78, q79, q80, q81, q82, q84, q85, q86, q87, q88, q89, q90, q91, q92, q93, q94, q95, q96, q97, q98, q99, q100, q101, q102, q103, q104, q105, q106, q107, q108, q109, q110, q111, q112, q114, q115, q116, q117, q118, q119]⟩
/- attestor/field.P -/
noncomputable def cf24 : HF := ⟨
(.seq (.reg [q2] fun c r s K => K [U0] s)
 (.seq (.reg [q2] fun c r s K => c n56 [(r q0)] s fun v0 s => fld n0 n1 false v0 fun v1 => K [v1] s)
 .ret)), [(.tmp q2)], [q0], [q3, q4, q5]⟩
/- attestor/field.of -/
noncomputable def cf56 : HF := ⟨
(.seq (.reg [q2] fun c r s K => alc s [zu, zu, zi, zi, zn] fun v0 s => K [v0] s)
 (.seq (.seq (.reg [q5] fun c r s K => c n57 [(r q0)] s fun v0 s => nott v0 fun v1 => K [v1] s)
 (.cond (.t q5) (.seq (.reg [] fun c r s K => h_op3_build [zu, zu, zi, zi, zn] [] c r s fun v0 s => sto s n5 (r q2) v0 fun s => K [] s)
 .ret)
 .skip))
 (.seq (.reg [] fun c r s K => ixA n4 n5 (.sc (.ptr n0 n0)) (r q0) fun v0 => lN s n5 v0 fun v1 => sto s n5 (r q2) v1 fun s => K [] s)
 .ret))), [(.cellN n5 q2)], [q0], [q3, q4, q6, q7, q8, q9]⟩
/- attestor/field.Valid -/
noncomputable def cf57 : HF := ⟨
(.seq (.reg [q2] fun c r s K => K [ff] s)
 (.seq (.reg [q2] fun c r s K => binK .geq (r q0) I0 fun v0 => mt v0 (r q0) s fun v1 s => jt v0 (binK .lss v1 I4) s fun v2 s => pck v0 v2 ff fun v3 => K [v3] s)
 .ret)), [(.tmp q2)], [q0], [q3, q4, q5, q6, q7, q8]⟩
/- attestor/stream.Bound -/
noncomputable def cf6 : HF := ⟨
(.seq (.reg [q1, q2, q3] fun c r s K => bxx s (r q0) fun v0 s => K [v0, I0, I0] s)
 (.seq (.reg [q4, q5] fun c r s K => lN s n14 (r q1) fun v0 => c n14 [v0] s fun v1 s => xE n0 v1 c r s fun v2 s => xE n1 v1 c r s fun v3 s => alc s [zi, zi, zi, zi, zi, zi, zi, zi, zi] fun v4 s => sto s n9 v4 v2 fun s => K [v4, v3] s)
 (.seq (.seq (.reg [q14] fun c r s K => binK .neq (r q5) I0 fun v0 => K [v0] s)
 (.cond (.t q14) (.seq (.reg [q2, q3] fun c r s K => K [I0, I1] s)
 .ret)
 .skip))
 (.seq (.reg [q6, q7] fun c r s K => lN s n9 (r q4) fun v0 => c n18 [v0] s fun v1 s => xE n0 v1 c r s fun v2 s => xE n1 v1 c r s fun v3 s => K [v2, v3] s)
 (.seq (.reg [q2, q3] fun c r s K => binK .add (r q6) (r q7) fun v0 => K [v0, I0] s)
 .ret))))), [(.tmp q2), (.tmp q3)], [q0], [q9, q10, q8, q11, q12, q13, q16, q17, q15, q18, q19, q20, q21, q22]⟩
/- attestor/stream.counts -/
noncomputable def cf18 : HF := ⟨
(.seq (.reg [q1, q2, q3] fun c r s K => bxx s (r q0) fun v0 s => K [v0, I0, I0] s)
 (.seq (.seq (.reg [q7, q8, q9] fun c r s K => lN s n9 (r q1) fun v0 => c n45 [v0] s fun v1 s => lnS v1 fun v2 => K [v1, v2, I0] s)
 (.block n0 (.loop (.seq (.reg [q10] fun c r s K => binK .lss (r q9) (r q8) fun v0 => K [v0] s)
 (.seq (.cond (.t q10) .skip
 (.exit n0))
 (.seq (.block n1 (.seq (.reg [q5] fun c r s K => ixs n4 (r q7) (r q9) fun v0 => lN s n4 v0 fun v1 => alc s [zb, zi, zi, zi] fun v2 s => sto s n4 v2 v1 fun s => K [v2] s)
 (.block n2 (.seq (.reg [q13] fun c r s K => fad n0 (r q5) fun v0 => ld s v0 fun v1 => binK .lss v1 B8 fun v2 => K [v2] s)
 (.cond (.t q13) (.reg [q2] fun c r s K => fad n3 (r q5) fun v0 => ld s v0 fun v1 => binK .add (r q2) v1 fun v2 => K [v2] s)
 (.seq (.reg [q21] fun c r s K => fad n1 (r q5) fun v0 => ld s v0 fun v1 => binK .eql v1 I0 fun v2 => K [v2] s)
 (.cond (.t q21) (.reg [q3] fun c r s K => fad n3 (r q5) fun v0 => ld s v0 fun v1 => binK .add (r q3) v1 fun v2 => K [v2] s)
 .skip)))))))
 (.reg [q9] fun c r s K => binK .add (r q9) I1 fun v0 => K [v0] s)))))))
 (.seq (.reg [q2, q3] fun c r s K => K [(r q2), (r q3)] s)
 .ret))), [(.tmp q2), (.tmp q3)], [q0], [q6, q11, q12, q14, q15, q16, q17, q18, q19, q20, q22, q23, q24, q25, q26, q27, q28, q29, q30, q31]⟩
/- attestor/proof.Parts -/
noncomputable def cf45 : HF := ⟨
(.seq (.reg [q1, q2] fun c r s K => bxx s (r q0) fun v0 s => K [v0, (.sc zn)] s)
 (.seq (.seq (.reg [q5] fun c r s K => lN s n9 (r q1) fun v0 => c n69 [v0] s fun v1 s => nott v1 fun v2 => K [v2] s)
 (.cond (.t q5) (.seq (.reg [q2] fun c r s K => K [(.sc zn)] s)
 .ret)
 .skip))
 (.seq (.reg [q2] fun c r s K => lN s n9 (r q1) fun v0 => c n72 [v0] s fun v1 s => c n71 [v1] s fun v2 s => c n70 [v2, (.sc (.fn n73))] s fun v3 s => K [v3] s)
 .ret))), [(.tmp q2)], [q0], [q3, q4, q6, q7, q8, q9]⟩
/- attestor/proof.Parts$1 -/
noncomputable def cf73 : HF := ⟨
(.seq (.reg [q1, q2] fun c r s K => bxx s (r q0) fun v0 s => K [v0, ff] s)
 (.seq (.reg [q2] fun c r s K => fad n3 (r q1) fun v0 => ld s v0 fun v1 => binK .eql v1 I0 fun v2 => K [v2] s)
 .ret)), [(.tmp q2)], [q0], [q3, q4, q5]⟩
/- slices.DeleteFunc[[]attestor/api.Part,attestor/api.Part] -/
noncomputable def cf70 : HF := ⟨
(.seq (.reg [q4] fun c r s K => K [(.sc zn)] s)
 (.seq (.reg [q5] fun c r s K => c n97 [(r q0), (r q1)] s fun v0 s => K [v0] s)
 (.seq (.seq (.reg [q12] fun c r s K => binK .eql (r q5) (.sc (.int .i64 (.negSucc n0))) fun v0 => K [v0] s)
 (.cond (.t q12) (.seq (.reg [q4] fun c r s K => K [(r q0)] s)
 .ret)
 .skip))
 (.seq (.seq (.reg [q6] fun c r s K => binK .add (r q5) I1 fun v0 => K [v0] s)
 (.block n0 (.loop (.seq (.seq (.reg [q19] fun c r s K => lnS (r q0) fun v0 => binK .lss (r q6) v0 fun v1 => K [v1] s)
 (.cond (.t q19) .skip
 (.exit n0)))
 (.seq (.block n1 (.seq (.reg [q7] fun c r s K => ixs n4 (r q0) (r q6) fun v0 => lN s n4 v0 fun v1 => alc s [zb, zi, zi, zi] fun v2 s => sto s n4 v2 v1 fun s => K [v2] s)
 (.seq (.reg [q29] fun c r s K => lN s n4 (r q7) fun v0 => h_op4_callV (.c (r q1)) [(.c v0)] c r s fun v1 s => nott v1 fun v2 => K [v2] s)
 (.cond (.t q29) (.seq (.reg [] fun c r s K => lN s n4 (r q7) fun v0 => ixs n4 (r q0) (r q5) fun v1 => sto s n4 v1 v0 fun s => K [] s)
 (.reg [q5] fun c r s K => binK .add (r q5) I1 fun v0 => K [v0] s))
 .skip))))
 (.reg [q6] fun c r s K => binK .add (r q6) I1 fun v0 => K [v0] s))))))
 (.seq (.reg [] fun c r s K => h_op3_sliceS n4 (.c (r q0)) (some (.c (r q5))) none none c r s fun v0 s => h_op5_clearS n4 [zb, zi, zi, zi] (.c v0) c r s fun _ s => K [] s)
 (.seq (.reg [q4] fun c r s K => h_op3_sliceS n4 (.c (r q0)) none (some (.c (r q5))) none c r s fun v0 s => K [v0] s)
 .ret)))))), [(.tmp q4)], [q0, q1], [q8, q9, q10, q11, q13, q14, q15, q16, q17, q18, q22, q23, q24, q25, q26, q27, q28, q30, q31, q32, q33, q34, q35, q20, q21, q36, q37, q38, q39, q40, q41]⟩
/- slices.IndexFunc[[]attestor/api.Part,attestor/api.Part] -/
noncomputable def cf97 : HF := ⟨
(.seq (.reg [q4] fun c r s K => K [I0] s)
 (.seq (.seq (.reg [q7, q8] fun c r s K => lnS (r q0) fun v0 => K [v0, I0] s)
 (.block n0 (.loop (.seq (.reg [q9] fun c r s K => binK .lss (r q8) (r q7) fun v0 => K [v0] s)
 (.seq (.cond (.t q9) .skip
 (.exit n0))
 (.seq (.block n1 (.seq (.reg [q5] fun c r s K => K [(r q8)] s)
 (.seq (.reg [q16] fun c r s K => ixs n4 (r q0) (r q5) fun v0 => lN s n4 v0 fun v1 => h_op4_callV (.c (r q1)) [(.c v1)] c r s fun v2 s => K [v2] s)
 (.cond (.t q16) (.seq (.reg [q4] fun c r s K => K [(r q5)] s)
 .ret)
 .skip))))
 (.reg [q8] fun c r s K => binK .add (r q8) I1 fun v0 => K [v0] s)))))))
 (.seq (.reg [q4] fun c r s K => (fun v0 => K [v0] s) (.sc (.int .i64 (.negSucc n0))))
 .ret))), [(.tmp q4)], [q0, q1], [q6, q10, q11, q12, q13, q14, q15, q17, q18]⟩
/- slices.Collect[attestor/api.Part] -/
noncomputable def cf71 : HF := ⟨
(.seq (.reg [q2] fun c r s K => K [(.sc zn)] s)
 (.seq (.reg [q2] fun c r s K => c n98 [(.sc zn), (r q0)] s fun v0 s => K [v0] s)
 .ret)), [(.tmp q2)], [q0], [q3, q4]⟩
/- slices.AppendSeq[[]attestor/api.Part,attestor/api.Part] -/
noncomputable def cf98 : HF := ⟨
(.seq (.reg [q2, q4] fun c r s K => bxx s (r q0) fun v0 s => K [v0, (.sc zn)] s)
 (.seq (.seq (.reg [q6] fun c r s K => K [(r q1)] s)
 (.block n0 (.rng n98 n0 (.t q6) [q7] (.reg [q5] fun c r s K => alc s [zb, zi, zi, zi] fun v0 s => sto s n4 v0 (r q7) fun s => K [v0] s)
 (.block n1 (.reg [] fun c r s K => ld s (r q2) fun v0 => lN s n4 (r q5) fun v1 => h_op3_buildS n1 n4 [zb, zi, zi, zi] [(n0, n4, (.c v1))] c r s fun v2 s => xA n4 n32 v0 v2 c r s fun v3 s => sto s n1 (r q2) v3 fun s => K [] s)))))
 (.seq (.reg [q4] fun c r s K => ld s (r q2) fun v0 => K [v0] s)
 .ret))), [(.tmp q4)], [q0, q1], [q8, q9, q10, q11, q12]⟩
/- attestor/proof.all -/
noncomputable def cf72 : HF := ⟨
(.seq (.reg [q1, q2] fun c r s K => bxx s (r q0) fun v0 s => K [v0, (.sc (.lit .nilFunc))] s)
 (.seq (.reg [q2] fun c r s K => h_op4_makeFunc n99 [(.c (r q1))] c r s fun v0 s => K [v0] s)
 .ret)), [(.tmp q2)], [q0], [q3]⟩
/- attestor/proof.all$1 -/
noncomputable def cf99 : HF := ⟨
(.seq (.drw [q3, q4] fun c r s K => (fun z m => dN z m n1 n0 s n9 (r q1) fun v0 m s => dw3 m n2 n1 s (fun s q => c n100 [v0] s q) fun v1 m s => dN z m n4 n0 s n9 (r q1) fun v2 m s => dw3 m n8 n7 s (fun s q => c n101 [v2] s q) fun v3 m s => dw1 m n16 (fun q => alc s [zi, zi] q) fun v4 m s => dw1 m n32 (fun q => alc s [zi, zi, zi, zi, zi, zi] q) fun v5 m s => dS z m n64 n63 s n2 v4 v1 fun _ m s => dS z m n128 n127 s n6 v5 v3 fun _ m s => K [v4, v5] s) s.next mk0)
 (.seq (.drw [q5] fun c r s K => (fun z m => fad n0 (r q3) fun v0 => dL z m n2 n1 s v0 fun v1 m s => binK .mul I2 v1 fun v2 => h_op3_build [zb, zi, zi, zi] [(n0, n1, (.c B1)), (n3, n1, (.c v2))] c r s fun v3 s => h_op3_build [zb, zi, zi, zi] [(n0, n1, (.c B2)), (n3, n1, (.c I1))] c r s fun v4 s => fad n7 (r q1) fun v5 => dL z m n64 n32 s v5 fun v6 m s => fad n0 (r q3) fun v7 => dL z m (nat_lit 256) n128 s v7 fun v8 m s => binK .mul I2 v8 fun v9 => dw3 m (nat_lit 1024) (nat_lit 992) s (fun s q => c n102 [v6, v9] s q) fun v10 m s => h_op3_build [zb, zi, zi, zi] [(n0, n1, (.c B3)), (n3, n1, (.c v10))] c r s fun v11 s => fad n0 (r q3) fun v12 => dL z m (nat_lit 8192) (nat_lit 4096) s v12 fun v13 m s => binK .mul I2 v13 fun v14 => h_op3_build [zb, zi, zi, zi] [(n0, n1, (.c B4)), (n3, n1, (.c v14))] c r s fun v15 s => dw1 m (nat_lit 65536) (fun q => h_op3_buildS n4 n4 [zb, zi, zi, zi, zb, zi, zi, zi, zb, zi, zi, zi, zb, zi, zi, zi] [(n0, n4, (.c v3)), (n4, n4, (.c v4)), (n8, n4, (.c v11)), (n12, n4, (.c v15))] c r s q) fun v16 m s => K [v16] s) s.next mk0)
 (.seq (.seq (.reg [q37, q38] fun c r s K => lN s n9 (r q1) fun v0 => c n103 [v0] s fun v1 s => K [v1, I0] s)
 (.block n0 (.loop (.seq (.reg [q39] fun c r s K => binK .lss (r q38) (r q37) fun v0 => K [v0] s)
 (.seq (.cond (.t q39) .skip
 (.exit n0))
 (.seq (.block n1 (.seq (.reg [q6] fun c r s K => K [(r q38)] s)
 (.reg [q5] fun c r s K => lN s n9 (r q1) fun v0 => c n104 [v0, (r q6)] s fun v1 s => fld n0 n1 false v1 fun v2 => binK .mul I2 v2 fun v3 => h_op3_build [zb, zi, zi, zi] [(n0, n1, (.c B5)), (n2, n1, (.c (r q6))), (n3, n1, (.c v3))] c r s fun v4 s => h_op3_buildS n1 n4 [zb, zi, zi, zi] [(n0, n4, (.c v4))] c r s fun v5 s => xA n4 n32 (r q5) v5 c r s fun v6 s => K [v6] s)))
 (.reg [q38] fun c r s K => binK .add (r q38) I1 fun v0 => K [v0] s)))))))
 (.seq (.drw [q5] fun c r s K => (fun z m => fad n1 (r q1) fun v0 => dL z m n4 n2 s v0 fun v1 m s => dN z m n8 n0 s n9 (r q1) fun v2 m s => dw3 m n16 n8 s (fun s q => c n103 [v2] s q) fun v3 m s => binK .mul I3 v3 fun v4 => binK .sub v1 v4 fun v5 => xS true I1 v5 c r s fun v6 s => h_op3_build [zb, zi, zi, zi] [(n0, n1, (.c B6)), (n3, n1, (.c v6))] c r s fun v7 s => h_op3_build [zb, zi, zi, zi] [(n0, n1, (.c B7)), (n3, n1, (.c I1))] c r s fun v8 s => dw1 m (nat_lit 1024) (fun q => h_op3_buildS n2 n4 [zb, zi, zi, zi, zb, zi, zi, zi] [(n0, n4, (.c v7)), (n4, n4, (.c v8))] c r s q) fun v9 m s => dw5 z m (nat_lit 2048) (nat_lit 2047) s (.more (.more (.append n4 n32 (.c (r q5)) (.c v9)))) r (fun s q => xA n4 n32 (r q5) v9 c r s q) fun v10 m s => K [v10] s) s.next mk0)
 (.seq (.seq (.reg [q65, q66] fun c r s K => fad n4 (r q1) fun v0 => ld s v0 fun v1 => K [v1, I0] s)
 (.block n2 (.loop (.seq (.reg [q67] fun c r s K => binK .lss (r q66) (r q65) fun v0 => K [v0] s)
 (.seq (.cond (.t q67) .skip
 (.exit n2))
 (.seq (.block n3 (.seq (.reg [q7] fun c r s K => K [(r q66)] s)
 (.seq (.seq (.reg [q69, q70] fun c r s K => lN s n6 (r q4) fun v0 => K [v0, I0] s)
 (.block n4 (.loop (.seq (.reg [q71] fun c r s K => binK .lss (r q70) I6 fun v0 => K [v0] s)
 (.seq (.cond (.t q71) .skip
 (.exit n4))
 (.seq (.block n5 (.seq (.reg [q8, q9] fun c r s K => h_op2_idxV n6 n1 false (.c (r q69)) (.c (r q70)) c r s fun v0 s => K [(r q70), v0] s)
 (.reg [q5] fun c r s K => h_op3_build [zb, zi, zi, zi] [(n0, n1, (.c B8)), (n1, n1, (.c (r q7))), (n2, n1, (.c (r q8))), (n3, n1, (.c (r q9)))] c r s fun v0 s => h_op3_buildS n1 n4 [zb, zi, zi, zi] [(n0, n4, (.c v0))] c r s fun v1 s => xA n4 n32 (r q5) v1 c r s fun v2 s => K [v2] s)))
 (.reg [q70] fun c r s K => binK .add (r q70) I1 fun v0 => K [v0] s)))))))
 (.seq (.seq (.reg [q82, q83] fun c r s K => lN s n6 (r q4) fun v0 => K [v0, I0] s)
 (.block n6 (.loop (.seq (.reg [q84] fun c r s K => binK .lss (r q83) I6 fun v0 => K [v0] s)
 (.seq (.cond (.t q84) .skip
 (.exit n6))
 (.seq (.block n7 (.seq (.reg [q10, q11] fun c r s K => h_op2_idxV n6 n1 false (.c (r q82)) (.c (r q83)) c r s fun v0 s => K [(r q83), v0] s)
 (.reg [q5] fun c r s K => fad n1 (r q3) fun v0 => ld s v0 fun v1 => binK .mul I2 v1 fun v2 => c n102 [(r q11), v2] s fun v3 s => h_op3_build [zb, zi, zi, zi] [(n0, n1, (.c B9)), (n1, n1, (.c (r q7))), (n2, n1, (.c (r q10))), (n3, n1, (.c v3))] c r s fun v4 s => h_op3_buildS n1 n4 [zb, zi, zi, zi] [(n0, n4, (.c v4))] c r s fun v5 s => xA n4 n32 (r q5) v5 c r s fun v6 s => K [v6] s)))
 (.reg [q83] fun c r s K => binK .add (r q83) I1 fun v0 => K [v0] s)))))))
 (.seq (.reg [q100, q101] fun c r s K => lN s n9 (r q1) fun v0 => c n103 [v0] s fun v1 s => K [v1, I0] s)
 (.block n8 (.loop (.seq (.reg [q102] fun c r s K => binK .lss (r q101) (r q100) fun v0 => K [v0] s)
 (.seq (.cond (.t q102) .skip
 (.exit n8))
 (.seq (.block n9 (.seq (.reg [q12] fun c r s K => K [(r q101)] s)
 (.reg [q5] fun c r s K => h_op3_build [zb, zi, zi, zi] [(n0, n1, (.c B10)), (n1, n1, (.c (r q7))), (n2, n1, (.c (r q12))), (n3, n1, (.c I8))] c r s fun v0 s => lN s n9 (r q1) fun v1 => c n104 [v1, (r q12)] s fun v2 s => fld n1 n1 false v2 fun v3 => binK .mul I2 v3 fun v4 => h_op3_build [zb, zi, zi, zi] [(n0, n1, (.c B11)), (n1, n1, (.c (r q7))), (n2, n1, (.c (r q12))), (n3, n1, (.c v4))] c r s fun v5 s => h_op3_buildS n2 n4 [zb, zi, zi, zi, zb, zi, zi, zi] [(n0, n4, (.c v0)), (n4, n4, (.c v5))] c r s fun v6 s => xA n4 n32 (r q5) v6 c r s fun v7 s => K [v7] s)))
 (.reg [q101] fun c r s K => binK .add (r q101) I1 fun v0 => K [v0] s)))))))))))
 (.reg [q66] fun c r s K => binK .add (r q66) I1 fun v0 => K [v0] s)))))))
 (.seq (.reg [q120, q121, q122] fun c r s K => lnS (r q5) fun v0 => K [(r q5), v0, I0] s)
 (.block n10 (.loop (.seq (.reg [q123] fun c r s K => binK .lss (r q122) (r q121) fun v0 => K [v0] s)
 (.seq (.cond (.t q123) .skip
 (.exit n10))
 (.seq (.block n11 (.seq (.reg [q14] fun c r s K => ixs n4 (r q120) (r q122) fun v0 => lN s n4 v0 fun v1 => alc s [zb, zi, zi, zi] fun v2 s => sto s n4 v2 v1 fun s => K [v2] s)
 (.seq (.reg [q129] fun c r s K => lN s n4 (r q14) fun v0 => h_op4_callV (.c (r q0)) [(.c v0)] c r s fun v1 s => nott v1 fun v2 => K [v2] s)
 (.cond (.t q129) .ret
 .skip))))
 (.reg [q122] fun c r s K => binK .add (r q122) I1 fun v0 => K [v0] s)))))))))))), [], [q0, q1], [q15, q16, q17, q18, q19, q20, q21, q22, q23, q24, q25, q26, q27, q28, q29, q30, q31, q32, q33, q34, q35, q36, q40, q41, q42, q43, q44, q45, q46, q47, q48, q49, q50, q51, q52, q53, q54, q55, q56, q57, q58, q59, q60, q61, q62, q63, q64, q68, q72, q73, q74, q75, q76, q77, q78, q79, q80, q81, q85, q86, q87, q88, q89, q90, q91, q92, q93, q94, q95, q96, q97, q98, q99, q103, q104, q105, q106, q107, q108, q109, q110, q111, q112, q113, q114, q115, q116, q117, q118, q119, q124, q125, q126, q127, q128, q130]⟩
/- attestor/proof.folded -/
noncomputable def cf104 : HF := ⟨
(.seq (.reg [q2, q4] fun c r s K => bxx s (r q0) fun v0 s => alc s [zi, zi] fun v1 s => K [v0, v1] s)
 (.seq (.reg [] fun c r s K => lN s n9 (r q2) fun v0 => fad n1 (r q2) fun v1 => ld s v1 fun v2 => fad n2 (r q2) fun v3 => ld s v3 fun v4 => binK .add v2 v4 fun v5 => binK .add (r q1) I1 fun v6 => binK .mul I3 v6 fun v7 => binK .sub v5 v7 fun v8 => c n126 [v0, v8] s fun v9 s => sto s n2 (r q4) v9 fun s => K [] s)
 .ret)), [(.cellN n2 q4)], [q0, q1], [q5, q6, q7, q8, q9, q10, q11, q12, q13, q14, q15]⟩
/- attestor/proof.treeOf -/
noncomputable def cf126 : HF := ⟨
(.seq (.reg [q2, q4] fun c r s K => bxx s (r q0) fun v0 s => alc s [zi, zi] fun v1 s => K [v0, v1] s)
 (.seq (.reg [q5] fun c r s K => fad n3 (r q2) fun v0 => ld s v0 fun v1 => h_op4_minmax false [(.c v1), (.c (r q1))] c r s fun v2 s => K [v2] s)
 (.seq (.reg [] fun c r s K => xS true I1 (r q5) c r s fun v0 s => binK .sub (r q1) (r q5) fun v1 => h_op3_build [zi, zi] [(n0, n1, (.c v0)), (n1, n1, (.c v1))] c r s fun v2 s => sto s n2 (r q4) v2 fun s => K [] s)
 .ret))), [(.cellN n2 q4)], [q0, q1], [q6, q7, q8, q9, q10, q11, q12, q13, q14, q15]⟩
/- attestor/proof.rounds -/
noncomputable def cf103 : HF := ⟨
(.seq (.reg [q1, q2] fun c r s K => bxx s (r q0) fun v0 s => K [v0, I0] s)
 (.seq (.reg [q2] fun c r s K => fad n1 (r q1) fun v0 => ld s v0 fun v1 => binK .quo v1 I3 fun v2 => K [v2] s)
 .ret)), [(.tmp q2)], [q0], [q3, q4, q5]⟩
/- attestor/proof.present -/
noncomputable def cf102 : HF := ⟨
(.seq (.reg [q4] fun c r s K => K [I0] s)
 (.seq (.seq (.reg [q6] fun c r s K => binK .eql (r q0) I0 fun v0 => K [v0] s)
 (.cond (.t q6) (.seq (.reg [q4] fun c r s K => K [I0] s)
 .ret)
 .skip))
 (.seq (.reg [q4] fun c r s K => K [(r q1)] s)
 .ret))), [(.tmp q4)], [q0, q1], [q5, q7]⟩
/- attestor/proof.columns -/
noncomputable def cf101 : HF := ⟨
(.seq (.reg [q1, q2] fun c r s K => bxx s (r q0) fun v0 s => alc s [zi, zi, zi, zi, zi, zi] fun v1 s => K [v0, v1] s)
 (.seq (.reg [] fun c r s K => fad n5 (r q1) fun v0 => ld s v0 fun v1 => fad n6 (r q1) fun v2 => ld s v2 fun v3 => fad n7 (r q1) fun v4 => ld s v4 fun v5 => fad n8 (r q1) fun v6 => ld s v6 fun v7 => fad n6 (r q1) fun v8 => ld s v8 fun v9 => fad n7 (r q1) fun v10 => ld s v10 fun v11 => h_op3_build [zi, zi, zi, zi, zi, zi] [(n0, n1, (.c v1)), (n1, n1, (.c v3)), (n2, n1, (.c v5)), (n3, n1, (.c v7)), (n4, n1, (.c v9)), (n5, n1, (.c v11))] c r s fun v12 s => sto s n6 (r q2) v12 fun s => K [] s)
 .ret)), [(.cellN n6 q2)], [q0], [q3, q4, q5, q6, q7, q8, q9, q10, q11, q12, q13, q14, q15]⟩
/- attestor/proof.wide -/
noncomputable def cf100 : HF := ⟨
(.seq (.reg [q1, q2] fun c r s K => bxx s (r q0) fun v0 s => alc s [zi, zi] fun v1 s => K [v0, v1] s)
 (.seq (.reg [] fun c r s K => lN s n9 (r q1) fun v0 => fad n1 (r q1) fun v1 => ld s v1 fun v2 => fad n2 (r q1) fun v3 => ld s v3 fun v4 => binK .add v2 v4 fun v5 => c n126 [v0, v5] s fun v6 s => sto s n2 (r q2) v6 fun s => K [] s)
 .ret)), [(.cellN n2 q2)], [q0], [q3, q4, q5, q6, q7, q8, q9]⟩
/- attestor/proof.Valid -/
noncomputable def cf69 : HF := ⟨
(.seq (.reg [q1, q2] fun c r s K => bxx s (r q0) fun v0 s => K [v0, ff] s)
 (.seq (.block n0 (.seq (.drw [q3] fun c r s K => (fun z m => fad n0 (r q1) fun v0 => dL z m n2 n1 s v0 fun v1 m s => dw3 m n4 n3 s (fun s q => c n57 [v1] s q) fun v2 m s => nott v2 fun v3 => jnD false v3 (fun jj => fad n1 (r q1) fun v => jj v m s) m s fun v4 m s => jnD false v3 (fun jj => dL z m n64 n63 s v4 jj) m s fun v5 m s => jnD false v3 (fun jj => dw3 m n128 n127 s (fun s q => c n96 [v5, I1, I13] s q) jj) m s fun v6 m s => jnD false v3 (fun jj => nott v6 fun v => jj v m s) m s fun v7 m s => pck v3 tt v7 fun v8 => jnD false v8 (fun jj => fad n2 (r q1) fun v => jj v m s) m s fun v9 m s => jnD false v8 (fun jj => dL z m (nat_lit 4096) (nat_lit 4095) s v9 jj) m s fun v10 m s => jnD false v8 (fun jj => dw3 m (nat_lit 8192) (nat_lit 8191) s (fun s q => c n96 [v10, I1, I5] s q) jj) m s fun v11 m s => jnD false v8 (fun jj => nott v11 fun v => jj v m s) m s fun v12 m s => pck v8 tt v12 fun v13 => jnD false v13 (fun jj => fad n1 (r q1) fun v => jj v m s) m s fun v14 m s => jnD false v13 (fun jj => dL z m (nat_lit 262144) (nat_lit 262143) s v14 jj) m s fun v15 m s => jnD false v13 (fun jj => fad n2 (r q1) fun v => jj v m s) m s fun v16 m s => jnD false v13 (fun jj => dL z m (nat_lit 1048576) (nat_lit 655359) s v16 jj) m s fun v17 m s => jnD false v13 (fun jj => binK .add v15 v17 fun v => jj v m s) m s fun v18 m s => jnD false v13 (fun jj => fad n0 (r q1) fun v => jj v m s) m s fun v19 m s => jnD false v13 (fun jj => dL z m (nat_lit 8388608) (nat_lit 4325375) s v19 jj) m s fun v20 m s => jnD false v13 (fun jj => dw3 m (nat_lit 16777216) (nat_lit 12713983) s (fun s q => c n89 [v20] s q) jj) m s fun v21 m s => jnD false v13 (fun jj => binK .gtr v18 v21 fun v => jj v m s) m s fun v22 m s => pck v13 tt v22 fun v23 => K [v23] s) s.next mk0)
 (.cond (.t q3) (.seq (.reg [q2] fun c r s K => K [ff] s)
 .ret)
 (.seq (.reg [q31] fun c r s K => fad n3 (r q1) fun v0 => ld s v0 fun v1 => c n96 [v1, I0, I8] s fun v2 s => nott v2 fun v3 => jf v3 (fad n4 (r q1)) s fun v4 s => jf v3 (ld s v4) s fun v5 s => jn false v3 (fun j => c n96 [v5, I1, (i6 n64)] s j) s fun v6 s => jf v3 (nott v6) s fun v7 s => pck v3 tt v7 fun v8 => K [v8] s)
 (.cond (.t q31) (.seq (.reg [q2] fun c r s K => K [ff] s)
 .ret)
 .skip)))))
 (.seq (.reg [q2] fun c r s K => fad n5 (r q1) fun v0 => ld s v0 fun v1 => c n96 [v1, I0, (i6 n64)] s fun v2 s => jt v2 (fad n6 (r q1)) s fun v3 s => jt v2 (ld s v3) s fun v4 s => jn true v2 (fun j => c n96 [v4, I1, (i6 n64)] s j) s fun v5 s => pck v2 v5 ff fun v6 => jt v6 (fad n7 (r q1)) s fun v7 s => jt v6 (ld s v7) s fun v8 s => jn true v6 (fun j => c n96 [v8, I0, I16] s j) s fun v9 s => pck v6 v9 ff fun v10 => jt v10 (fad n8 (r q1)) s fun v11 s => jt v10 (ld s v11) s fun v12 s => jn true v10 (fun j => c n96 [v12, I1, I16] s j) s fun v13 s => pck v10 v13 ff fun v14 => K [v14] s)
 .ret))), [(.tmp q2)], [q0], [q4, q5, q6, q7, q8, q9, q10, q11, q12, q13, q14, q15, q16, q17, q18, q19, q20, q21, q22, q23, q24, q25, q26, q27, q28, q29, q30, q32, q33, q34, q35, q36, q37, q38, q39, q40, q41, q42, q43, q44, q45, q46, q47, q48, q49, q50, q51, q52, q53, q54, q55, q56, q57, q58, q59]⟩
/- attestor/field.Twos -/
noncomputable def cf89 : HF := ⟨
(.seq (.reg [q2] fun c r s K => K [I0] s)
 (.seq (.reg [q2] fun c r s K => c n56 [(r q0)] s fun v0 s => fld n2 n1 false v0 fun v1 => K [v1] s)
 .ret)), [(.tmp q2)], [q0], [q3, q4, q5]⟩
/- attestor/proof.within -/
noncomputable def cf96 : HF := ⟨
(.seq (.reg [q6] fun c r s K => K [ff] s)
 (.seq (.reg [q6] fun c r s K => binK .geq (r q0) (r q1) fun v0 => mt v0 (r q0) s fun v1 s => mt v0 (r q2) s fun v2 s => jt v0 (binK .leq v1 v2) s fun v3 s => pck v0 v3 ff fun v4 => K [v4] s)
 .ret)), [(.tmp q6)], [q0, q1, q2], [q7, q8, q9, q10, q11, q12, q13, q14]⟩
/- attestor/prover.Shape -/
noncomputable def cf14 : HF := ⟨
(.seq (.reg [q1, q2, q3] fun c r s K => bxx s (r q0) fun v0 s => alc s [zi, zi, zi, zi, zi, zi, zi, zi, zi] fun v1 s => K [v0, v1, I0] s)
 (.seq (.reg [q4, q5] fun c r s K => lN s n14 (r q1) fun v0 => c n22 [v0] s fun v1 s => xE n0 v1 c r s fun v2 s => xE n1 v1 c r s fun v3 s => alc s [zi, zi, zi, zi, zn, zn, zn, zn] fun v4 s => sto s n8 v4 v2 fun s => K [v4, v3] s)
 (.seq (.seq (.reg [q12] fun c r s K => nott (r q5) fun v0 => K [v0] s)
 (.cond (.t q12) (.seq (.reg [q3] fun c r s K => h_op3_build [zi, zi, zi, zi, zi, zi, zi, zi, zi] [] c r s fun v0 s => sto s n9 (r q2) v0 fun s => K [I1] s)
 .ret)
 .skip))
 (.seq (.drw [q3] fun c r s K => (fun z m => fad n0 (r q4) fun v0 => dL z m n2 n1 s v0 fun v1 m s => fad n1 (r q4) fun v2 => dL z m n8 n4 s v2 fun v3 m s => fad n0 (r q1) fun v4 => fad n0 v4 fun v5 => dL z m n64 n48 s v5 fun v6 m s => fad n0 (r q1) fun v7 => fad n1 v7 fun v8 => dL z m (nat_lit 512) (nat_lit 384) s v8 fun v9 m s => fad n0 (r q1) fun v10 => fad n2 v10 fun v11 => dL z m (nat_lit 4096) (nat_lit 3072) s v11 fun v12 m s => fad n12 (r q1) fun v13 => dL z m (nat_lit 16384) (nat_lit 8192) s v13 fun v14 m s => fad n2 (r q4) fun v15 => dL z m (nat_lit 65536) (nat_lit 32768) s v15 fun v16 m s => dN z m (nat_lit 131072) n0 s n8 (r q4) fun v17 m s => dw3 m (nat_lit 262144) (nat_lit 131072) s (fun s q => c n30 [v17] s q) fun v18 m s => dN z m (nat_lit 524288) n0 s n8 (r q4) fun v19 m s => dw3 m (nat_lit 1048576) (nat_lit 917504) s (fun s q => c n31 [v19] s q) fun v20 m s => h_op3_build [zi, zi, zi, zi, zi, zi, zi, zi, zi] [(n0, n1, (.c v1)), (n1, n1, (.c v3)), (n2, n1, (.c v6)), (n3, n1, (.c v9)), (n4, n1, (.c v12)), (n5, n1, (.c v14)), (n6, n1, (.c v16)), (n7, n1, (.c v18)), (n8, n1, (.c v20))] c r s fun v21 s => dS z m (nat_lit 4194304) (nat_lit 4194303) s n9 (r q2) v21 fun _ m s => K [I0] s) s.next mk0)
 .ret)))), [(.cellN n9 q2), (.tmp q3)], [q0], [q7, q8, q6, q9, q10, q11, q13, q14, q15, q16, q17, q18, q19, q20, q21, q22, q23, q24, q25, q26, q27, q28, q29, q30, q31, q32, q33, q34, q35]⟩
/- attestor/compose.Segments -/
noncomputable def cf31 : HF := ⟨
(.seq (.reg [q1, q2] fun c r s K => bxx s (r q0) fun v0 s => K [v0, I0] s)
 (.seq (.seq (.reg [q5] fun c r s K => lN s n8 (r q1) fun v0 => c n62 [v0] s fun v1 s => nott v1 fun v2 => K [v2] s)
 (.cond (.t q5) (.seq (.reg [q2] fun c r s K => K [I0] s)
 .ret)
 .skip))
 (.seq (.reg [q2] fun c r s K => lN s n8 (r q1) fun v0 => c n66 [v0] s fun v1 s => binK .sub v1 I1 fun v2 => h_op4_minmax true [(.c I1), (.c v2)] c r s fun v3 s => K [v3] s)
 .ret))), [(.tmp q2)], [q0], [q3, q4, q6, q7, q8, q9]⟩
/- attestor/system.Degree -/
noncomputable def cf66 : HF := ⟨
(.seq (.reg [q1, q2] fun c r s K => bxx s (r q0) fun v0 s => K [v0, I0] s)
 (.seq (.seq (.reg [q10] fun c r s K => lN s n8 (r q1) fun v0 => c n62 [v0] s fun v1 s => nott v1 fun v2 => K [v2] s)
 (.cond (.t q10) (.seq (.reg [q2] fun c r s K => K [I0] s)
 .ret)
 .skip))
 (.seq (.reg [q3] fun c r s K => K [I1] s)
 (.seq (.seq (.reg [q12, q13, q14] fun c r s K => fad n5 (r q1) fun v0 => ld s v0 fun v1 => lnS v1 fun v2 => K [v1, v2, I0] s)
 (.block n0 (.loop (.seq (.reg [q15] fun c r s K => binK .lss (r q14) (r q13) fun v0 => K [v0] s)
 (.seq (.cond (.t q15) .skip
 (.exit n0))
 (.seq (.block n1 (.seq (.reg [q5] fun c r s K => ixs n2 (r q12) (r q14) fun v0 => lN s n2 v0 fun v1 => alc s [zb, zn] fun v2 s => sto s n2 v2 v1 fun s => K [v2] s)
 (.reg [q3] fun c r s K => fad n1 (r q5) fun v0 => ld s v0 fun v1 => c n95 [v1] s fun v2 s => h_op4_minmax true [(.c (r q3)), (.c v2)] c r s fun v3 s => K [v3] s)))
 (.reg [q14] fun c r s K => binK .add (r q14) I1 fun v0 => K [v0] s)))))))
 (.seq (.seq (.reg [q25, q26, q27] fun c r s K => fad n6 (r q1) fun v0 => ld s v0 fun v1 => lnS v1 fun v2 => K [v1, v2, I0] s)
 (.block n2 (.loop (.seq (.reg [q28] fun c r s K => binK .lss (r q27) (r q26) fun v0 => K [v0] s)
 (.seq (.cond (.t q28) .skip
 (.exit n2))
 (.seq (.block n3 (.seq (.reg [q7] fun c r s K => ixs n2 (r q25) (r q27) fun v0 => lN s n2 v0 fun v1 => alc s [zn, zn] fun v2 s => sto s n2 v2 v1 fun s => K [v2] s)
 (.reg [q3] fun c r s K => fad n0 (r q7) fun v0 => ld s v0 fun v1 => lnS v1 fun v2 => binK .add v2 I1 fun v3 => h_op4_minmax true [(.c (r q3)), (.c v3)] c r s fun v4 s => K [v4] s)))
 (.reg [q27] fun c r s K => binK .add (r q27) I1 fun v0 => K [v0] s)))))))
 (.seq (.seq (.reg [q41] fun c r s K => fad n7 (r q1) fun v0 => ld s v0 fun v1 => lnS v1 fun v2 => binK .gtr v2 I0 fun v3 => K [v3] s)
 (.cond (.t q41) (.reg [q3] fun c r s K => h_op4_minmax true [(.c (r q3)), (.c I3)] c r s fun v0 s => K [v0] s)
 .skip))
 (.seq (.reg [q2] fun c r s K => K [(r q3)] s)
 .ret))))))), [(.tmp q2)], [q0], [q8, q9, q11, q16, q17, q18, q19, q20, q21, q22, q23, q24, q29, q30, q31, q32, q33, q34, q35, q36, q37, q38, q39, q40, q42, q43, q44]⟩
/- attestor/mono.Degree -/
noncomputable def cf95 : HF := ⟨
(.seq (.reg [q2] fun c r s K => K [I0] s)
 (.seq (.reg [q3] fun c r s K => K [I0] s)
 (.seq (.seq (.reg [q9, q10, q11] fun c r s K => lnS (r q0) fun v0 => K [(r q0), v0, I0] s)
 (.block n0 (.loop (.seq (.reg [q12] fun c r s K => binK .lss (r q11) (r q10) fun v0 => K [v0] s)
 (.seq (.cond (.t q12) .skip
 (.exit n0))
 (.seq (.block n1 (.seq (.reg [q5] fun c r s K => ixs n2 (r q9) (r q11) fun v0 => lN s n2 v0 fun v1 => alc s [zu, zn] fun v2 s => sto s n2 v2 v1 fun s => K [v2] s)
 (.seq (.reg [q6] fun c r s K => K [I0] s)
 (.seq (.seq (.reg [q16, q17, q18] fun c r s K => fad n1 (r q5) fun v0 => ld s v0 fun v1 => lnS v1 fun v2 => K [v1, v2, I0] s)
 (.block n2 (.loop (.seq (.reg [q19] fun c r s K => binK .lss (r q18) (r q17) fun v0 => K [v0] s)
 (.seq (.cond (.t q19) .skip
 (.exit n2))
 (.seq (.block n3 (.seq (.reg [q8] fun c r s K => ixs n2 (r q16) (r q18) fun v0 => lN s n2 v0 fun v1 => alc s [zb, zi] fun v2 s => sto s n2 v2 v1 fun s => K [v2] s)
 (.seq (.reg [q23] fun c r s K => fad n0 (r q8) fun v0 => ld s v0 fun v1 => K [v1] s)
 (.block n4 (.seq (.seq (.reg [q24] fun c r s K => binK .eql (r q23) B1 fun v0 => K [v0] s)
 (.cond (.t q24) .skip
 (.seq (.reg [q24] fun c r s K => binK .eql (r q23) B2 fun v0 => K [v0] s)
 (.cond (.t q24) .skip
 (.seq (.reg [q24] fun c r s K => binK .eql (r q23) B3 fun v0 => K [v0] s)
 (.cond (.t q24) .skip
 (.seq (.reg [q24] fun c r s K => binK .eql (r q23) B5 fun v0 => K [v0] s)
 (.cond (.t q24) .skip
 (.reg [q24] fun c r s K => binK .eql (r q23) B6 fun v0 => K [v0] s)))))))))
 (.cond (.t q24) (.reg [q6] fun c r s K => binK .add (r q6) I1 fun v0 => K [v0] s)
 .skip))))))
 (.reg [q18] fun c r s K => binK .add (r q18) I1 fun v0 => K [v0] s)))))))
 (.reg [q3] fun c r s K => h_op4_minmax true [(.c (r q3)), (.c (r q6))] c r s fun v0 s => K [v0] s)))))
 (.reg [q11] fun c r s K => binK .add (r q11) I1 fun v0 => K [v0] s)))))))
 (.seq (.reg [q2] fun c r s K => K [(r q3)] s)
 .ret)))), [(.tmp q2)], [q0], [q13, q14, q15, q20, q21, q22, q25, q26, q27, q28, q29, q30, q31, q32, q33, q34, q35, q36, q37]⟩
/- attestor/system.Valid -/
noncomputable def cf62 : HF := ⟨
(.seq (.reg [q1, q2] fun c r s K => bxx s (r q0) fun v0 s => K [v0, ff] s)
 (.seq (.seq (.drw [q34] fun c r s K => (fun z m => fad n0 (r q1) fun v0 => dL z m n2 n1 s v0 fun v1 m s => dw3 m n4 n3 s (fun s q => c n57 [v1] s q) fun v2 m s => nott v2 fun v3 => jnD false v3 (fun jj => fad n1 (r q1) fun v => jj v m s) m s fun v4 m s => jnD false v3 (fun jj => dL z m n64 n63 s v4 jj) m s fun v5 m s => jnD false v3 (fun jj => fad n0 (r q1) fun v => jj v m s) m s fun v6 m s => jnD false v3 (fun jj => dL z m (nat_lit 256) n159 s v6 jj) m s fun v7 m s => jnD false v3 (fun jj => dw3 m (nat_lit 512) (nat_lit 415) s (fun s q => c n89 [v7] s q) jj) m s fun v8 m s => jnD false v3 (fun jj => h_op4_minmax false [(.c I13), (.c v8)] c r s fun v s => jj v m s) m s fun v9 m s => jnD false v3 (fun jj => dw3 m (nat_lit 2048) (nat_lit 2047) s (fun s q => c n88 [v5, I1, v9] s q) jj) m s fun v10 m s => jnD false v3 (fun jj => nott v10 fun v => jj v m s) m s fun v11 m s => pck v3 tt v11 fun v12 => jnD false v12 (fun jj => fad n2 (r q1) fun v => jj v m s) m s fun v13 m s => jnD false v12 (fun jj => dL z m (nat_lit 65536) (nat_lit 65535) s v13 jj) m s fun v14 m s => jnD false v12 (fun jj => dw3 m (nat_lit 131072) (nat_lit 131071) s (fun s q => c n88 [v14, I1, (i6 n64)] s q) jj) m s fun v15 m s => jnD false v12 (fun jj => nott v15 fun v => jj v m s) m s fun v16 m s => pck v12 tt v16 fun v17 => jnD false v17 (fun jj => fad n3 (r q1) fun v => jj v m s) m s fun v18 m s => jnD false v17 (fun jj => dL z m (nat_lit 4194304) (nat_lit 4194303) s v18 jj) m s fun v19 m s => jnD false v17 (fun jj => dw3 m (nat_lit 8388608) (nat_lit 8388607) s (fun s q => c n88 [v19, I0, I16] s q) jj) m s fun v20 m s => jnD false v17 (fun jj => nott v20 fun v => jj v m s) m s fun v21 m s => pck v17 tt v21 fun v22 => K [v22] s) s.next mk0)
 (.cond (.t q34) (.seq (.reg [q2] fun c r s K => K [ff] s)
 .ret)
 .skip))
 (.seq (.seq (.reg [q56] fun c r s K => fad n4 (r q1) fun v0 => ld s v0 fun v1 => lnS v1 fun v2 => binK .gtr v2 (i6 n64) fun v3 => jf v3 (fad n5 (r q1)) s fun v4 s => jf v3 (ld s v4) s fun v5 s => jf v3 (lnS v5) s fun v6 s => jf v3 (binK .gtr v6 (i6 n64)) s fun v7 s => pck v3 tt v7 fun v8 => jf v8 (fad n6 (r q1)) s fun v9 s => jf v8 (ld s v9) s fun v10 s => jf v8 (lnS v10) s fun v11 s => jf v8 (binK .gtr v11 I4) s fun v12 s => pck v8 tt v12 fun v13 => jf v13 (fad n7 (r q1)) s fun v14 s => jf v13 (ld s v14) s fun v15 s => jf v13 (lnS v15) s fun v16 s => jf v13 (binK .gtr v16 I8) s fun v17 s => pck v13 tt v17 fun v18 => K [v18] s)
 (.cond (.t q56) (.seq (.reg [q2] fun c r s K => K [ff] s)
 .ret)
 .skip))
 (.seq (.seq (.drw [q65] fun c r s K => (fun z m => fad n0 (r q1) fun v0 => dL z m n2 n1 s v0 fun v1 m s => fad n1 (r q1) fun v2 => dL z m n8 n4 s v2 fun v3 m s => xS true I1 v3 c r s fun v4 s => fad n4 (r q1) fun v5 => dL z m n64 n32 s v5 fun v6 m s => dw3 m n128 n127 s (fun s q => c n90 [v1, v4, v6] s q) fun v7 m s => nott v7 fun v8 => K [v8] s) s.next mk0)
 (.cond (.t q65) (.seq (.reg [q2] fun c r s K => K [ff] s)
 .ret)
 .skip))
 (.seq (.seq (.reg [q67, q68, q69] fun c r s K => fad n5 (r q1) fun v0 => ld s v0 fun v1 => lnS v1 fun v2 => K [v1, v2, I0] s)
 (.block n0 (.loop (.seq (.reg [q70] fun c r s K => binK .lss (r q69) (r q68) fun v0 => K [v0] s)
 (.seq (.cond (.t q70) .skip
 (.exit n0))
 (.seq (.block n1 (.seq (.reg [q4] fun c r s K => ixs n2 (r q67) (r q69) fun v0 => lN s n2 v0 fun v1 => alc s [zb, zn] fun v2 s => sto s n2 v2 v1 fun s => K [v2] s)
 (.seq (.reg [q76] fun c r s K => lN s n8 (r q1) fun v0 => lN s n2 (r q4) fun v1 => c n91 [v0, v1] s fun v2 s => nott v2 fun v3 => K [v3] s)
 (.cond (.t q76) (.seq (.reg [q2] fun c r s K => K [ff] s)
 .ret)
 .skip))))
 (.reg [q69] fun c r s K => binK .add (r q69) I1 fun v0 => K [v0] s)))))))
 (.seq (.seq (.reg [q79, q80, q81] fun c r s K => fad n6 (r q1) fun v0 => ld s v0 fun v1 => lnS v1 fun v2 => K [v1, v2, I0] s)
 (.block n2 (.loop (.seq (.reg [q82] fun c r s K => binK .lss (r q81) (r q80) fun v0 => K [v0] s)
 (.seq (.cond (.t q82) .skip
 (.exit n2))
 (.seq (.block n3 (.seq (.reg [q6] fun c r s K => ixs n2 (r q79) (r q81) fun v0 => lN s n2 v0 fun v1 => alc s [zn, zn] fun v2 s => sto s n2 v2 v1 fun s => K [v2] s)
 (.seq (.reg [q88] fun c r s K => lN s n8 (r q1) fun v0 => lN s n2 (r q6) fun v1 => c n92 [v0, v1] s fun v2 s => nott v2 fun v3 => K [v3] s)
 (.cond (.t q88) (.seq (.reg [q2] fun c r s K => K [ff] s)
 .ret)
 .skip))))
 (.reg [q81] fun c r s K => binK .add (r q81) I1 fun v0 => K [v0] s)))))))
 (.seq (.seq (.reg [q91, q92, q93] fun c r s K => fad n7 (r q1) fun v0 => ld s v0 fun v1 => lnS v1 fun v2 => K [v1, v2, I0] s)
 (.block n4 (.loop (.seq (.reg [q94] fun c r s K => binK .lss (r q93) (r q92) fun v0 => K [v0] s)
 (.seq (.cond (.t q94) .skip
 (.exit n4))
 (.seq (.block n5 (.seq (.reg [q8] fun c r s K => ixs n4 (r q91) (r q93) fun v0 => lN s n4 v0 fun v1 => alc s [zn, zn, zb, zi] fun v2 s => sto s n4 v2 v1 fun s => K [v2] s)
 (.seq (.reg [q100] fun c r s K => lN s n8 (r q1) fun v0 => lN s n4 (r q8) fun v1 => c n93 [v0, v1] s fun v2 s => nott v2 fun v3 => K [v3] s)
 (.cond (.t q100) (.seq (.reg [q2] fun c r s K => K [ff] s)
 .ret)
 .skip))))
 (.reg [q93] fun c r s K => binK .add (r q93) I1 fun v0 => K [v0] s)))))))
 (.seq (.reg [q2] fun c r s K => K [tt] s)
 .ret)))))))), [(.tmp q2)], [q0], [q9, q10, q11, q12, q13, q14, q15, q16, q17, q18, q19, q20, q21, q22, q23, q24, q25, q26, q27, q28, q29, q30, q31, q32, q33, q35, q36, q37, q38, q39, q40, q41, q42, q43, q44, q45, q46, q47, q48, q49, q50, q51, q52, q53, q54, q55, q57, q58, q59, q60, q61, q62, q63, q64, q66, q71, q72, q73, q74, q75, q77, q78, q83, q84, q85, q86, q87, q89, q90, q95, q96, q97, q98, q99, q101]⟩
/- attestor/system.looked -/
noncomputable def cf93 : HF := ⟨
(.seq (.reg [q2, q3, q4] fun c r s K => bxx s (r q0) fun v0 s => bxx s (r q1) fun v1 s => K [v0, v1, ff] s)
 (.seq (.reg [q5] fun c r s K => fad n0 (r q3) fun v0 => ld s v0 fun v1 => lnS v1 fun v2 => K [v2] s)
 (.seq (.reg [q4] fun c r s K => c n88 [(r q5), I1, I4] s fun v0 s => jt v0 (fad n2 (r q3)) s fun v1 s => jt v0 (fad n0 v1) s fun v2 s => jt v0 (ld s v2) s fun v3 s => jt v0 (binK .eql v3 B1) s fun v4 s => pck v0 v4 ff fun v5 => jt v5 (lN s n8 (r q2)) s fun v6 s => jt v5 (fad n2 (r q3)) s fun v7 s => jt v5 (lN s n2 v7) s fun v8 s => jn true v5 (fun j => c n123 [v6, v8] s j) s fun v9 s => pck v5 v9 ff fun v10 => jt v10 (lN s n8 (r q2)) s fun v11 s => jt v10 (fad n0 (r q3)) s fun v12 s => jt v10 (ld s v12) s fun v13 s => mt v10 (r q5) s fun v14 s => jn true v10 (fun j => h_op3_buildS n2 n1 [zb, zb] [(n0, n1, (.c B1)), (n1, n1, (.c B3))] c r s j) s fun v15 s => jn true v10 (fun j => c n125 [v11, v13, v14, v15] s j) s fun v16 s => pck v10 v16 ff fun v17 => jt v17 (lN s n8 (r q2)) s fun v18 s => jt v17 (fad n1 (r q3)) s fun v19 s => jt v17 (ld s v19) s fun v20 s => mt v17 (r q5) s fun v21 s => jn true v17 (fun j => h_op3_buildS n1 n1 [zb] [(n0, n1, (.c B3))] c r s j) s fun v22 s => jn true v17 (fun j => c n125 [v18, v20, v21, v22] s j) s fun v23 s => pck v17 v23 ff fun v24 => K [v24] s)
 .ret))), [(.tmp q4)], [q0, q1], [q6, q7, q8, q9, q10, q11, q12, q13, q14, q15, q16, q17, q18, q19, q20, q21, q22, q23, q24, q25, q26, q27, q28, q29, q30, q31, q32, q33, q34, q35, q36, q37, q38]⟩
/- attestor/system.tupled -/
noncomputable def cf125 : HF := ⟨
(.seq (.reg [q4, q7, q8] fun c r s K => bxx s (r q0) fun v0 s => bxx s (r q3) fun v1 s => K [v0, v1, ff] s)
 (.seq (.reg [q8] fun c r s K => lnS (r q1) fun v0 => binK .eql v0 (r q2) fun v1 => mt v1 (r q1) s fun v2 s => jn true v1 (fun j => h_op4_makeFunc (nat_lit 162) [(.c (r q4)), (.c (r q7))] c r s j) s fun v3 s => jn true v1 (fun j => c n124 [v2, v3] s j) s fun v4 s => jt v1 (nott v4) s fun v5 s => pck v1 v5 ff fun v6 => K [v6] s)
 .ret)), [(.tmp q8)], [q0, q1, q2, q3], [q9, q10, q11, q12, q13, q14, q15, q16, q17, q18]⟩
/- slices.ContainsFunc[[]attestor/api.Var,attestor/api.Var] -/
noncomputable def cf124 : HF := ⟨
(.seq (.reg [q4] fun c r s K => K [ff] s)
 (.seq (.reg [q4] fun c r s K => c (nat_lit 161) [(r q0), (r q1)] s fun v0 s => binK .geq v0 I0 fun v1 => K [v1] s)
 .ret)), [(.tmp q4)], [q0, q1], [q5, q6, q7, q8]⟩
/- slices.IndexFunc[[]attestor/api.Var,attestor/api.Var] -/
noncomputable def cf161 : HF := ⟨
(.seq (.reg [q4] fun c r s K => K [I0] s)
 (.seq (.seq (.reg [q7, q8] fun c r s K => lnS (r q0) fun v0 => K [v0, I0] s)
 (.block n0 (.loop (.seq (.reg [q9] fun c r s K => binK .lss (r q8) (r q7) fun v0 => K [v0] s)
 (.seq (.cond (.t q9) .skip
 (.exit n0))
 (.seq (.block n1 (.seq (.reg [q5] fun c r s K => K [(r q8)] s)
 (.seq (.reg [q16] fun c r s K => ixs n2 (r q0) (r q5) fun v0 => lN s n2 v0 fun v1 => h_op4_callV (.c (r q1)) [(.c v1)] c r s fun v2 s => K [v2] s)
 (.cond (.t q16) (.seq (.reg [q4] fun c r s K => K [(r q5)] s)
 .ret)
 .skip))))
 (.reg [q8] fun c r s K => binK .add (r q8) I1 fun v0 => K [v0] s)))))))
 (.seq (.reg [q4] fun c r s K => (fun v0 => K [v0] s) (.sc (.int .i64 (.negSucc n0))))
 .ret))), [(.tmp q4)], [q0, q1], [q6, q10, q11, q12, q13, q14, q15, q17, q18]⟩
/- attestor/system.tupled$1 -/
noncomputable def cf162 : HF := ⟨
(.seq (.reg [q3, q4] fun c r s K => bxx s (r q0) fun v0 s => K [v0, ff] s)
 (.seq (.reg [q4] fun c r s K => lN s n8 (r q1) fun v0 => lN s n2 (r q3) fun v1 => c n123 [v0, v1] s fun v2 s => nott v2 fun v3 => jf v3 (ld s (r q2)) s fun v4 s => jf v3 (fad n0 (r q3)) s fun v5 s => jf v3 (ld s v5) s fun v6 s => jn false v3 (fun j => c (nat_lit 163) [v4, v6] s j) s fun v7 s => jf v3 (nott v7) s fun v8 s => pck v3 tt v8 fun v9 => K [v9] s)
 .ret)), [(.tmp q4)], [q0, q1, q2], [q5, q6, q7, q8, q9, q10, q11, q12, q13, q14, q15]⟩
/- slices.Contains[[]attestor/api.VarKind,attestor/api.VarKind] -/
noncomputable def cf163 : HF := ⟨
(.seq (.reg [q4] fun c r s K => K [ff] s)
 (.seq (.reg [q4] fun c r s K => c (nat_lit 185) [(r q0), (r q1)] s fun v0 s => binK .geq v0 I0 fun v1 => K [v1] s)
 .ret)), [(.tmp q4)], [q0, q1], [q5, q6, q7, q8]⟩
/- slices.Index[[]attestor/api.VarKind,attestor/api.VarKind] -/
noncomputable def cf185 : HF := ⟨
(.seq (.reg [q4] fun c r s K => K [I0] s)
 (.seq (.seq (.reg [q7, q8] fun c r s K => lnS (r q0) fun v0 => K [v0, I0] s)
 (.block n0 (.loop (.seq (.reg [q9] fun c r s K => binK .lss (r q8) (r q7) fun v0 => K [v0] s)
 (.seq (.cond (.t q9) .skip
 (.exit n0))
 (.seq (.block n1 (.seq (.reg [q5] fun c r s K => K [(r q8)] s)
 (.seq (.reg [q16] fun c r s K => ixs n1 (r q0) (r q5) fun v0 => ld s v0 fun v1 => binK .eql (r q1) v1 fun v2 => K [v2] s)
 (.cond (.t q16) (.seq (.reg [q4] fun c r s K => K [(r q5)] s)
 .ret)
 .skip))))
 (.reg [q8] fun c r s K => binK .add (r q8) I1 fun v0 => K [v0] s)))))))
 (.seq (.reg [q4] fun c r s K => (fun v0 => K [v0] s) (.sc (.int .i64 (.negSucc n0))))
 .ret))), [(.tmp q4)], [q0, q1], [q6, q10, q11, q12, q13, q14, q15, q17, q18]⟩
/- attestor/system.knows -/
noncomputable def cf123 : HF := ⟨
(.seq (.reg [q2, q3, q4] fun c r s K => bxx s (r q0) fun v0 s => bxx s (r q1) fun v1 s => K [v0, v1, ff] s)
 (.seq (.reg [q5] fun c r s K => K [I0] s)
 (.seq (.seq (.reg [q7] fun c r s K => fad n0 (r q3) fun v0 => ld s v0 fun v1 => K [v1] s)
 (.block n0 (.seq (.seq (.reg [q8] fun c r s K => binK .eql (r q7) B1 fun v0 => K [v0] s)
 (.cond (.t q8) .skip
 (.reg [q8] fun c r s K => binK .eql (r q7) B2 fun v0 => K [v0] s)))
 (.cond (.t q8) (.reg [q5] fun c r s K => fad n2 (r q2) fun v0 => ld s v0 fun v1 => K [v1] s)
 (.seq (.reg [q13] fun c r s K => binK .eql (r q7) B3 fun v0 => K [v0] s)
 (.cond (.t q13) (.reg [q5] fun c r s K => fad n4 (r q2) fun v0 => ld s v0 fun v1 => lnS v1 fun v2 => K [v2] s)
 (.seq (.reg [q18] fun c r s K => binK .eql (r q7) B4 fun v0 => K [v0] s)
 (.cond (.t q18) (.reg [q5] fun c r s K => fad n3 (r q2) fun v0 => ld s v0 fun v1 => K [v1] s)
 .skip))))))))
 (.seq (.reg [q4] fun c r s K => fad n1 (r q3) fun v0 => ld s v0 fun v1 => binK .geq v1 I0 fun v2 => jt v2 (fad n1 (r q3)) s fun v3 s => jt v2 (ld s v3) s fun v4 s => mt v2 (r q5) s fun v5 s => jt v2 (binK .lss v4 v5) s fun v6 s => pck v2 v6 ff fun v7 => K [v7] s)
 .ret)))), [(.tmp q4)], [q0, q1], [q6, q9, q10, q11, q12, q14, q15, q16, q17, q19, q20, q21, q22, q23, q24, q25, q26, q27, q28, q29, q30]⟩
/- attestor/system.permuted -/
noncomputable def cf92 : HF := ⟨
(.seq (.reg [q2, q3, q4] fun c r s K => bxx s (r q0) fun v0 s => bxx s (r q1) fun v1 s => K [v0, v1, ff] s)
 (.seq (.seq (.reg [q29] fun c r s K => fad n0 (r q3) fun v0 => ld s v0 fun v1 => lnS v1 fun v2 => c n88 [v2, I1, I4] s fun v3 s => nott v3 fun v4 => jf v4 (fad n1 (r q3)) s fun v5 s => jf v4 (ld s v5) s fun v6 s => jf v4 (lnS v6) s fun v7 s => jf v4 (fad n0 (r q3)) s fun v8 s => jf v4 (ld s v8) s fun v9 s => jf v4 (lnS v9) s fun v10 s => jf v4 (binK .neq v7 v10) s fun v11 s => pck v4 tt v11 fun v12 => jf v12 (fad n0 (r q3)) s fun v13 s => jf v12 (ld s v13) s fun v14 s => jf v12 (ixs n1 v14 I0) s fun v15 s => jf v12 (ld s v15) s fun v16 s => jf v12 (lnS v16) s fun v17 s => jn false v12 (fun j => c n88 [v17, I1, I4] s j) s fun v18 s => jf v12 (nott v18) s fun v19 s => pck v12 tt v19 fun v20 => K [v20] s)
 (.cond (.t q29) (.seq (.reg [q4] fun c r s K => K [ff] s)
 .ret)
 .skip))
 (.seq (.seq (.reg [q35, q36, q37] fun c r s K => fad n0 (r q3) fun v0 => ld s v0 fun v1 => fad n1 (r q3) fun v2 => ld s v2 fun v3 => h_op3_buildS n2 n1 [zn, zn] [(n0, n1, (.c v1)), (n1, n1, (.c v3))] c r s fun v4 s => c n65 [v4] s fun v5 s => lnS v5 fun v6 => K [v5, v6, I0] s)
 (.block n0 (.loop (.seq (.reg [q38] fun c r s K => binK .lss (r q37) (r q36) fun v0 => K [v0] s)
 (.seq (.cond (.t q38) .skip
 (.exit n0))
 (.seq (.block n1 (.seq (.reg [q6] fun c r s K => ixs n1 (r q35) (r q37) fun v0 => ld s v0 fun v1 => K [v1] s)
 (.seq (.drw [q50] fun c r s K => (fun z m => dN z m n1 n0 s n8 (r q2) fun v0 m s => fad n0 (r q3) fun v1 => dL z m n8 n4 s v1 fun v2 m s => ixs n1 v2 I0 fun v3 => dL z m n32 n28 s v3 fun v4 m s => lnS v4 fun v5 => dw1 m n128 (fun q => h_op3_buildS n2 n1 [zb, zb] [(n0, n1, (.c B1)), (n1, n1, (.c B3))] c r s q) fun v6 m s => dw3 m (nat_lit 256) (nat_lit 255) s (fun s q => c n125 [v0, (r q6), v5, v6] s q) fun v7 m s => nott v7 fun v8 => K [v8] s) s.next mk0)
 (.cond (.t q50) (.seq (.reg [q4] fun c r s K => K [ff] s)
 .ret)
 .skip))))
 (.reg [q37] fun c r s K => binK .add (r q37) I1 fun v0 => K [v0] s)))))))
 (.seq (.reg [q4] fun c r s K => K [tt] s)
 .ret)))), [(.tmp q4)], [q0, q1], [q7, q8, q9, q10, q11, q12, q13, q14, q15, q16, q17, q18, q19, q20, q21, q22, q23, q24, q25, q26, q27, q28, q30, q31, q32, q33, q34, q39, q40, q41, q42, q43, q44, q45, q46, q47, q48, q49, q51]⟩
/- slices.Concat[[][]attestor/api.Var,[]attestor/api.Var] -/
noncomputable def cf65 : HF := ⟨
(.seq (.reg [q2] fun c r s K => K [(.sc zn)] s)
 (.seq (.reg [q3] fun c r s K => K [I0] s)
 (.seq (.seq (.reg [q9, q10, q11] fun c r s K => lnS (r q0) fun v0 => K [(r q0), v0, I0] s)
 (.block n0 (.loop (.seq (.reg [q12] fun c r s K => binK .lss (r q11) (r q10) fun v0 => K [v0] s)
 (.seq (.cond (.t q12) .skip
 (.exit n0))
 (.seq (.block n1 (.seq (.reg [q5] fun c r s K => ixs n1 (r q9) (r q11) fun v0 => ld s v0 fun v1 => K [v1] s)
 (.seq (.reg [q3] fun c r s K => lnS (r q5) fun v0 => binK .add (r q3) v0 fun v1 => K [v1] s)
 (.seq (.reg [q20] fun c r s K => binK .lss (r q3) I0 fun v0 => K [v0] s)
 (.cond (.t q20) (.reg [] fun c r s K => h_op4_iface n9 (.c (.sc (.lit (.string ⟨#[108, 101, 110, 32, 111, 117, 116, 32, 111, 102, 32, 114, 97, 110, 103, 101]⟩)))) c r s fun v0 s => h_op4_bad n102 c r s fun _ s => K [] s)
 .skip)))))
 (.reg [q11] fun c r s K => binK .add (r q11) I1 fun v0 => K [v0] s)))))))
 (.seq (.reg [q6] fun c r s K => c n94 [(.sc zn), (r q3)] s fun v0 s => K [v0] s)
 (.seq (.seq (.reg [q25, q26, q27] fun c r s K => lnS (r q0) fun v0 => K [(r q0), v0, I0] s)
 (.block n2 (.loop (.seq (.reg [q28] fun c r s K => binK .lss (r q27) (r q26) fun v0 => K [v0] s)
 (.seq (.cond (.t q28) .skip
 (.exit n2))
 (.seq (.block n3 (.seq (.reg [q8] fun c r s K => ixs n1 (r q25) (r q27) fun v0 => ld s v0 fun v1 => K [v1] s)
 (.reg [q6] fun c r s K => xA n1 n24 (r q6) (r q8) c r s fun v0 s => K [v0] s)))
 (.reg [q27] fun c r s K => binK .add (r q27) I1 fun v0 => K [v0] s)))))))
 (.seq (.reg [q2] fun c r s K => K [(r q6)] s)
 .ret)))))), [(.tmp q2)], [q0], [q13, q14, q15, q16, q17, q18, q19, q21, q22, q23, q24, q29, q30, q31, q32, q33, q34, q35]⟩
/- slices.Grow[[][]attestor/api.Var,[]attestor/api.Var] -/
noncomputable def cf94 : HF := ⟨
(.seq (.reg [q4] fun c r s K => K [(.sc zn)] s)
 (.seq (.seq (.reg [q6] fun c r s K => binK .lss (r q1) I0 fun v0 => K [v0] s)
 (.cond (.t q6) (.reg [] fun c r s K => h_op4_iface n9 (.c (.sc (.lit (.string ⟨#[99, 97, 110, 110, 111, 116, 32, 98, 101, 32, 110, 101, 103, 97, 116, 105, 118, 101]⟩)))) c r s fun v0 s => h_op4_bad n102 c r s fun _ s => K [] s)
 .skip))
 (.seq (.seq (.reg [q1] fun c r s K => h_op4_capOf (.c (r q0)) c r s fun v0 s => lnS (r q0) fun v1 => binK .sub v0 v1 fun v2 => binK .sub (r q1) v2 fun v3 => K [v3] s)
 (.seq (.reg [q16] fun c r s K => binK .gtr (r q1) I0 fun v0 => K [v0] s)
 (.cond (.t q16) (.reg [q0] fun c r s K => h_op4_capOf (.c (r q0)) c r s fun v0 s => h_op3_sliceS n1 (.c (r q0)) none (some (.c v0)) none c r s fun v1 s => h_op3_appendZ n1 n24 [zn] (.c v1) (.c (r q1)) c r s fun v2 s => lnS (r q0) fun v3 => h_op3_sliceS n1 (.c v2) none (some (.c v3)) none c r s fun v4 s => K [v4] s)
 .skip)))
 (.seq (.reg [q4] fun c r s K => K [(r q0)] s)
 .ret)))), [(.tmp q4)], [q0, q1], [q5, q7, q8, q9, q10, q11, q12, q13, q14, q15, q17, q18, q19, q20, q21, q22, q23, q24, q25, q26]⟩
/- attestor/system.ruled -/
noncomputable def cf91 : HF := ⟨
(.seq (.reg [q2, q3, q4] fun c r s K => bxx s (r q0) fun v0 s => bxx s (r q1) fun v1 s => K [v0, v1, ff] s)
 (.seq (.reg [q5] fun c r s K => fad n0 (r q3) fun v0 => ld s v0 fun v1 => binK .eql v1 B3 fun v2 => jf v2 (fad n0 (r q3)) s fun v3 s => jf v2 (ld s v3) s fun v4 s => jf v2 (binK .eql v4 B4) s fun v5 s => pck v2 tt v5 fun v6 => alc s [(.bool false)] fun v7 s => sto s n1 v7 v6 fun s => K [v7] s)
 (.seq (.seq (.reg [q39] fun c r s K => fad n0 (r q3) fun v0 => ld s v0 fun v1 => binK .lss v1 B1 fun v2 => jf v2 (fad n0 (r q3)) s fun v3 s => jf v2 (ld s v3) s fun v4 s => jf v2 (binK .gtr v4 B4) s fun v5 s => pck v2 tt v5 fun v6 => jf v6 (fad n1 (r q3)) s fun v7 s => jf v6 (ld s v7) s fun v8 s => jf v6 (lnS v8) s fun v9 s => jf v6 (binK .gtr v9 (i6 n64)) s fun v10 s => pck v6 tt v10 fun v11 => jf v11 (ld s (r q5)) s fun v12 s => mf v11 v12 s fun v13 s => jt v13 (fad n1 (r q3)) s fun v14 s => jt v13 (ld s v14) s fun v15 s => jn true v13 (fun j => c n95 [v15] s j) s fun v16 s => jt v13 (binK .gtr v16 I1) s fun v17 s => jf v11 (pck v13 v17 ff) s fun v18 s => pck v11 tt v18 fun v19 => K [v19] s)
 (.cond (.t q39) (.seq (.reg [q4] fun c r s K => K [ff] s)
 .ret)
 .skip))
 (.seq (.reg [q6] fun c r s K => h_op4_makeFunc n122 [(.c (r q2)), (.c (r q5))] c r s fun v0 s => K [v0] s)
 (.seq (.seq (.reg [q42, q43, q44] fun c r s K => fad n1 (r q3) fun v0 => ld s v0 fun v1 => lnS v1 fun v2 => K [v1, v2, I0] s)
 (.block n0 (.loop (.seq (.reg [q45] fun c r s K => binK .lss (r q44) (r q43) fun v0 => K [v0] s)
 (.seq (.cond (.t q45) .skip
 (.exit n0))
 (.seq (.block n1 (.seq (.reg [q8] fun c r s K => ixs n2 (r q42) (r q44) fun v0 => lN s n2 v0 fun v1 => alc s [zu, zn] fun v2 s => sto s n2 v2 v1 fun s => K [v2] s)
 (.seq (.drw [q65] fun c r s K => (fun z m => fad n0 (r q8) fun v0 => dL z m n2 n1 s v0 fun v1 m s => fad n0 (r q2) fun v2 => dL z m n8 n4 s v2 fun v3 m s => dw3 m n16 n12 s (fun s q => c n24 [v3] s q) fun v4 m s => binK .geq v1 v4 fun v5 => jnD false v5 (fun jj => fad n1 (r q8) fun v => jj v m s) m s fun v6 m s => jnD false v5 (fun jj => dL z m (nat_lit 256) (nat_lit 255) s v6 jj) m s fun v7 m s => jnD false v5 (fun jj => lnS v7 fun v => jj v m s) m s fun v8 m s => jnD false v5 (fun jj => binK .gtr v8 I8 fun v => jj v m s) m s fun v9 m s => pck v5 tt v9 fun v10 => jnD false v10 (fun jj => fad n1 (r q8) fun v => jj v m s) m s fun v11 m s => jnD false v10 (fun jj => dL z m (nat_lit 16384) (nat_lit 16383) s v11 jj) m s fun v12 m s => jnD false v10 (fun jj => jj (r q6) m s) m s fun v13 m s => jnD false v10 (fun jj => dw3 m (nat_lit 65536) (nat_lit 65535) s (fun s q => c n124 [v12, v13] s q) jj) m s fun v14 m s => pck v10 tt v14 fun v15 => K [v15] s) s.next mk0)
 (.cond (.t q65) (.seq (.reg [q4] fun c r s K => K [ff] s)
 .ret)
 .skip))))
 (.reg [q44] fun c r s K => binK .add (r q44) I1 fun v0 => K [v0] s)))))))
 (.seq (.reg [q4] fun c r s K => K [tt] s)
 .ret)))))), [(.tmp q4)], [q0, q1], [q9, q10, q11, q12, q13, q14, q15, q16, q17, q18, q19, q20, q21, q22, q23, q24, q25, q26, q27, q28, q29, q30, q31, q32, q33, q34, q35, q36, q37, q38, q40, q41, q46, q47, q48, q49, q50, q51, q52, q53, q54, q55, q56, q57, q58, q59, q60, q61, q62, q63, q64, q66]⟩
/- attestor/system.ruled$1 -/
noncomputable def cf122 : HF := ⟨
(.seq (.reg [q3, q4] fun c r s K => bxx s (r q0) fun v0 s => K [v0, ff] s)
 (.seq (.reg [q4] fun c r s K => lN s n8 (r q1) fun v0 => lN s n2 (r q3) fun v1 => c n123 [v0, v1] s fun v2 s => nott v2 fun v3 => jf v3 (ld s (r q2)) s fun v4 s => mf v3 v4 s fun v5 s => jt v5 (fad n0 (r q3)) s fun v6 s => jt v5 (ld s v6) s fun v7 s => jt v5 (binK .eql v7 B2) s fun v8 s => jf v3 (pck v5 v8 ff) s fun v9 s => pck v3 tt v9 fun v10 => K [v10] s)
 .ret)), [(.tmp q4)], [q0, q1, q2], [q5, q6, q7, q8, q9, q10, q11, q12, q13, q14, q15, q16]⟩
/- attestor/system.columns -/
noncomputable def cf90 : HF := ⟨
(.seq (.reg [q3, q4, q6] fun c r s K => bxx s (r q0) fun v0 s => bxx s (r q1) fun v1 s => K [v0, v1, ff] s)
 (.seq (.reg [q6] fun c r s K => h_op4_makeFunc n120 [(.c (r q4)), (.c (r q3))] c r s fun v0 s => c n119 [(r q2), v0] s fun v1 s => nott v1 fun v2 => K [v2] s)
 .ret)), [(.tmp q6)], [q0, q1, q2], [q7, q8, q9, q10]⟩
/- slices.ContainsFunc[[][]uint64,[]uint64] -/
noncomputable def cf119 : HF := ⟨
(.seq (.reg [q4] fun c r s K => K [ff] s)
 (.seq (.reg [q4] fun c r s K => c n158 [(r q0), (r q1)] s fun v0 s => binK .geq v0 I0 fun v1 => K [v1] s)
 .ret)), [(.tmp q4)], [q0, q1], [q5, q6, q7, q8]⟩
/- slices.IndexFunc[[][]uint64,[]uint64] -/
noncomputable def cf158 : HF := ⟨
(.seq (.reg [q4] fun c r s K => K [I0] s)
 (.seq (.seq (.reg [q7, q8] fun c r s K => lnS (r q0) fun v0 => K [v0, I0] s)
 (.block n0 (.loop (.seq (.reg [q9] fun c r s K => binK .lss (r q8) (r q7) fun v0 => K [v0] s)
 (.seq (.cond (.t q9) .skip
 (.exit n0))
 (.seq (.block n1 (.seq (.reg [q5] fun c r s K => K [(r q8)] s)
 (.seq (.reg [q16] fun c r s K => ixs n1 (r q0) (r q5) fun v0 => ld s v0 fun v1 => h_op4_callV (.c (r q1)) [(.c v1)] c r s fun v2 s => K [v2] s)
 (.cond (.t q16) (.seq (.reg [q4] fun c r s K => K [(r q5)] s)
 .ret)
 .skip))))
 (.reg [q8] fun c r s K => binK .add (r q8) I1 fun v0 => K [v0] s)))))))
 (.seq (.reg [q4] fun c r s K => (fun v0 => K [v0] s) (.sc (.int .i64 (.negSucc n0))))
 .ret))), [(.tmp q4)], [q0, q1], [q6, q10, q11, q12, q13, q14, q15, q17, q18]⟩
/- attestor/system.columns$1 -/
noncomputable def cf120 : HF := ⟨
(.seq (.reg [q4] fun c r s K => K [ff] s)
 (.seq (.reg [q4] fun c r s K => lnS (r q0) fun v0 => ld s (r q1) fun v1 => binK .neq v0 v1 fun v2 => jf v2 (ld s (r q2)) s fun v3 s => mf v2 (r q0) s fun v4 s => jn false v2 (fun j => c n121 [v3, v4] s j) s fun v5 s => jf v2 (nott v5) s fun v6 s => pck v2 tt v6 fun v7 => K [v7] s)
 .ret)), [(.tmp q4)], [q0, q1, q2], [q5, q6, q7, q8, q9, q10, q11, q12, q13, q14]⟩
/- attestor/system.elements -/
noncomputable def cf121 : HF := ⟨
(.seq (.reg [q4] fun c r s K => K [ff] s)
 (.seq (.reg [q5] fun c r s K => c n24 [(r q0)] s fun v0 s => alc s [zu] fun v1 s => sto s n1 v1 v0 fun s => K [v1] s)
 (.seq (.reg [q4] fun c r s K => h_op4_makeFunc (nat_lit 160) [(.c (r q5))] c r s fun v0 s => c n159 [(r q1), v0] s fun v1 s => nott v1 fun v2 => K [v2] s)
 .ret))), [(.tmp q4)], [q0, q1], [q6, q7, q8, q9, q10, q11]⟩
/- slices.ContainsFunc[[]uint64,uint64] -/
noncomputable def cf159 : HF := ⟨
(.seq (.reg [q4] fun c r s K => K [ff] s)
 (.seq (.reg [q4] fun c r s K => c (nat_lit 184) [(r q0), (r q1)] s fun v0 s => binK .geq v0 I0 fun v1 => K [v1] s)
 .ret)), [(.tmp q4)], [q0, q1], [q5, q6, q7, q8]⟩
/- slices.IndexFunc[[]uint64,uint64] -/
noncomputable def cf184 : HF := ⟨
(.seq (.reg [q4] fun c r s K => K [I0] s)
 (.seq (.seq (.reg [q7, q8] fun c r s K => lnS (r q0) fun v0 => K [v0, I0] s)
 (.block n0 (.loop (.seq (.reg [q9] fun c r s K => binK .lss (r q8) (r q7) fun v0 => K [v0] s)
 (.seq (.cond (.t q9) .skip
 (.exit n0))
 (.seq (.block n1 (.seq (.reg [q5] fun c r s K => K [(r q8)] s)
 (.seq (.reg [q16] fun c r s K => ixs n1 (r q0) (r q5) fun v0 => ld s v0 fun v1 => h_op4_callV (.c (r q1)) [(.c v1)] c r s fun v2 s => K [v2] s)
 (.cond (.t q16) (.seq (.reg [q4] fun c r s K => K [(r q5)] s)
 .ret)
 .skip))))
 (.reg [q8] fun c r s K => binK .add (r q8) I1 fun v0 => K [v0] s)))))))
 (.seq (.reg [q4] fun c r s K => (fun v0 => K [v0] s) (.sc (.int .i64 (.negSucc n0))))
 .ret))), [(.tmp q4)], [q0, q1], [q6, q10, q11, q12, q13, q14, q15, q17, q18]⟩
/- attestor/system.elements$1 -/
noncomputable def cf160 : HF := ⟨
(.seq (.reg [q3] fun c r s K => K [ff] s)
 (.seq (.reg [q3] fun c r s K => ld s (r q1) fun v0 => binK .geq (r q0) v0 fun v1 => K [v1] s)
 .ret)), [(.tmp q3)], [q0, q1], [q4, q5, q6]⟩
/- attestor/system.between -/
noncomputable def cf88 : HF := ⟨
(.seq (.reg [q6] fun c r s K => K [ff] s)
 (.seq (.reg [q6] fun c r s K => binK .geq (r q0) (r q1) fun v0 => mt v0 (r q0) s fun v1 s => mt v0 (r q2) s fun v2 s => jt v0 (binK .leq v1 v2) s fun v3 s => pck v0 v3 ff fun v4 => K [v4] s)
 .ret)), [(.tmp q6)], [q0, q1, q2], [q7, q8, q9, q10, q11, q12, q13, q14]⟩
/- attestor/argument.Count -/
noncomputable def cf30 : HF := ⟨
(.seq (.reg [q1, q2] fun c r s K => bxx s (r q0) fun v0 s => K [v0, I0] s)
 (.seq (.seq (.reg [q5] fun c r s K => lN s n8 (r q1) fun v0 => c n62 [v0] s fun v1 s => nott v1 fun v2 => K [v2] s)
 (.cond (.t q5) (.seq (.reg [q2] fun c r s K => K [I0] s)
 .ret)
 .skip))
 (.seq (.reg [q2] fun c r s K => fad n6 (r q1) fun v0 => ld s v0 fun v1 => lnS v1 fun v2 => fad n7 (r q1) fun v3 => ld s v3 fun v4 => lnS v4 fun v5 => binK .add v2 v5 fun v6 => K [v6] s)
 .ret))), [(.tmp q2)], [q0], [q3, q4, q6, q7, q8, q9, q10, q11, q12]⟩
/- attestor/prover.checked -/
noncomputable def cf22 : HF := ⟨
(.seq (.reg [q1, q2, q3] fun c r s K => bxx s (r q0) fun v0 s => alc s [zi, zi, zi, zi, zn, zn, zn, zn] fun v1 s => K [v0, v1, ff] s)
 (.seq (.reg [q4, q5] fun c r s K => lN s n14 (r q1) fun v0 => c n52 [v0] s fun v1 s => xE n0 v1 c r s fun v2 s => xE n1 v1 c r s fun v3 s => alc s [zi, zi, zi, zi, zn, zn, zn, zn] fun v4 s => sto s n8 v4 v2 fun s => K [v4, v3] s)
 (.seq (.seq (.reg [q22] fun c r s K => nott (r q5) fun v0 => jf v0 (lN s n8 (r q4)) s fun v1 s => jf v0 (fad n0 (r q1)) s fun v2 s => jf v0 (lN s n4 v2) s fun v3 s => jn false v0 (fun j => c n53 [v1, v3] s j) s fun v4 s => jf v0 (nott v4) s fun v5 s => pck v0 tt v5 fun v6 => K [v6] s)
 (.cond (.t q22) (.seq (.reg [q3] fun c r s K => h_op3_build [zi, zi, zi, zi, zn, zn, zn, zn] [] c r s fun v0 s => sto s n8 (r q2) v0 fun s => K [ff] s)
 .ret)
 .skip))
 (.seq (.reg [q6] fun c r s K => K [I0] s)
 (.seq (.seq (.reg [q26] fun c r s K => fad n12 (r q1) fun v0 => ld s v0 fun v1 => binK .gtr v1 I0 fun v2 => K [v2] s)
 (.cond (.t q26) (.reg [q6] fun c r s K => fad n0 (r q1) fun v0 => fad n1 v0 fun v1 => ld s v1 fun v2 => fad n1 (r q4) fun v3 => ld s v3 fun v4 => fad n0 (r q1) fun v5 => fad n0 v5 fun v6 => ld s v6 fun v7 => binK .add v4 v7 fun v8 => h_op4_minmax false [(.c v2), (.c v8)] c r s fun v9 s => xS true I1 v9 c r s fun v10 s => K [v10] s)
 .skip))
 (.seq (.reg [q7] fun c r s K => fad n0 (r q4) fun v0 => ld s v0 fun v1 => c n24 [v1] s fun v2 s => alc s [zu] fun v3 s => sto s n1 v3 v2 fun s => K [v3] s)
 (.seq (.reg [q8] fun c r s K => h_op4_makeFunc n54 [(.c (r q7))] c r s fun v0 s => K [v0] s)
 (.seq (.drw [q3] fun c r s K => (fun z m => dN z m n1 n0 s n8 (r q4) fun v0 m s => fad n13 (r q1) fun v1 => dL z m n4 n2 s v1 fun v2 m s => lnS v2 fun v3 => binK .eql v3 (r q6) fun v4 => jnD true v4 (fun jj => fad n13 (r q1) fun v => jj v m s) m s fun v5 m s => jnD true v4 (fun jj => dL z m (nat_lit 256) (nat_lit 254) s v5 jj) m s fun v6 m s => jnD true v4 (fun jj => jj (r q8) m s) m s fun v7 m s => jnD true v4 (fun jj => dw3 m (nat_lit 1024) (nat_lit 1022) s (fun s q => c n55 [v6, v7] s q) jj) m s fun v8 m s => jnD true v4 (fun jj => nott v8 fun v => jj v m s) m s fun v9 m s => pck v4 v9 ff fun v10 => dS z m (nat_lit 8192) (nat_lit 2047) s n8 (r q2) v0 fun _ m s => K [v10] s) s.next mk0)
 .ret)))))))), [(.cellN n8 q2), (.tmp q3)], [q0], [q10, q11, q9, q12, q13, q14, q15, q16, q17, q18, q19, q20, q21, q23, q24, q25, q27, q28, q29, q30, q31, q32, q33, q34, q35, q36, q37, q38, q39, q40, q41, q42, q43, q44, q45, q46, q47, q48, q49, q50, q51, q52, q53, q54]⟩
/- slices.ContainsFunc[[]attestor/api.Digest,attestor/api.Digest] -/
noncomputable def cf55 : HF := ⟨
(.seq (.reg [q4] fun c r s K => K [ff] s)
 (.seq (.reg [q4] fun c r s K => c n83 [(r q0), (r q1)] s fun v0 s => binK .geq v0 I0 fun v1 => K [v1] s)
 .ret)), [(.tmp q4)], [q0, q1], [q5, q6, q7, q8]⟩
/- slices.IndexFunc[[]attestor/api.Digest,attestor/api.Digest] -/
noncomputable def cf83 : HF := ⟨
(.seq (.reg [q4] fun c r s K => K [I0] s)
 (.seq (.seq (.reg [q7, q8] fun c r s K => lnS (r q0) fun v0 => K [v0, I0] s)
 (.block n0 (.loop (.seq (.reg [q9] fun c r s K => binK .lss (r q8) (r q7) fun v0 => K [v0] s)
 (.seq (.cond (.t q9) .skip
 (.exit n0))
 (.seq (.block n1 (.seq (.reg [q5] fun c r s K => K [(r q8)] s)
 (.seq (.reg [q16] fun c r s K => ixs n2 (r q0) (r q5) fun v0 => lN s n2 v0 fun v1 => h_op4_callV (.c (r q1)) [(.c v1)] c r s fun v2 s => K [v2] s)
 (.cond (.t q16) (.seq (.reg [q4] fun c r s K => K [(r q5)] s)
 .ret)
 .skip))))
 (.reg [q8] fun c r s K => binK .add (r q8) I1 fun v0 => K [v0] s)))))))
 (.seq (.reg [q4] fun c r s K => (fun v0 => K [v0] s) (.sc (.int .i64 (.negSucc n0))))
 .ret))), [(.tmp q4)], [q0, q1], [q6, q10, q11, q12, q13, q14, q15, q17, q18]⟩
/- attestor/prover.checked$1 -/
noncomputable def cf54 : HF := ⟨
(.seq (.reg [q2, q3] fun c r s K => bxx s (r q0) fun v0 s => K [v0, ff] s)
 (.seq (.reg [q3] fun c r s K => ixA n2 n1 (r q2) I0 fun v0 => ld s v0 fun v1 => ixA n2 n1 (r q2) I1 fun v2 => ld s v2 fun v3 => h_op4_minmax true [(.c v1), (.c v3)] c r s fun v4 s => ld s (r q1) fun v5 => binK .geq v4 v5 fun v6 => K [v6] s)
 .ret)), [(.tmp q3)], [q0, q1], [q4, q5, q6, q7, q8, q9, q10]⟩
/- attestor/prover.Possible -/
noncomputable def cf53 : HF := ⟨
(.seq (.reg [q2, q3, q4] fun c r s K => bxx s (r q0) fun v0 s => bxx s (r q1) fun v1 s => K [v0, v1, ff] s)
 (.seq (.seq (.reg [q32] fun c r s K => fad n1 (r q3) fun v0 => ld s v0 fun v1 => binK .lss v1 I0 fun v2 => jf v2 (fad n1 (r q3)) s fun v3 s => jf v2 (ld s v3) s fun v4 s => jf v2 (binK .gtr v4 I8) s fun v5 s => pck v2 tt v5 fun v6 => jf v6 (fad n2 (r q3)) s fun v7 s => jf v6 (ld s v7) s fun v8 s => jf v6 (binK .lss v8 I1) s fun v9 s => pck v6 tt v9 fun v10 => jf v10 (fad n2 (r q3)) s fun v11 s => jf v10 (ld s v11) s fun v12 s => jf v10 (binK .gtr v12 (i6 n64)) s fun v13 s => pck v10 tt v13 fun v14 => jf v14 (fad n3 (r q3)) s fun v15 s => jf v14 (ld s v15) s fun v16 s => jf v14 (binK .lss v16 I0) s fun v17 s => pck v14 tt v17 fun v18 => jf v18 (fad n3 (r q3)) s fun v19 s => jf v18 (ld s v19) s fun v20 s => jf v18 (binK .gtr v20 I20) s fun v21 s => pck v18 tt v21 fun v22 => K [v22] s)
 (.cond (.t q32) (.seq (.reg [q4] fun c r s K => K [ff] s)
 .ret)
 .skip))
 (.seq (.reg [q4] fun c r s K => lN s n8 (r q2) fun v0 => fad n0 (r q3) fun v1 => ld s v1 fun v2 => c n82 [v0, v2] s fun v3 s => K [v3] s)
 .ret))), [(.tmp q4)], [q0, q1], [q5, q6, q7, q8, q9, q10, q11, q12, q13, q14, q15, q16, q17, q18, q19, q20, q21, q22, q23, q24, q25, q26, q27, q28, q29, q30, q31, q33, q34, q35, q36]⟩
/- attestor/compose.Possible -/
noncomputable def cf82 : HF := ⟨
(.seq (.reg [q2, q4] fun c r s K => bxx s (r q0) fun v0 s => K [v0, ff] s)
 (.seq (.drw [q4] fun c r s K => (fun z m => binK .geq (r q1) I1 fun v0 => jnD true v0 (fun jj => jj (r q1) m s) m s fun v1 m s => jnD true v0 (fun jj => binK .leq v1 I5 fun v => jj v m s) m s fun v2 m s => pck v0 v2 ff fun v3 => jnD true v3 (fun jj => dN z m n128 n127 s n8 (r q2) jj) m s fun v4 m s => jnD true v3 (fun jj => dw3 m (nat_lit 256) (nat_lit 255) s (fun s q => c n62 [v4] s q) jj) m s fun v5 m s => pck v3 v5 ff fun v6 => jnD true v6 (fun jj => fad n1 (r q2) fun v => jj v m s) m s fun v7 m s => jnD true v6 (fun jj => dL z m (nat_lit 4096) (nat_lit 4095) s v7 jj) m s fun v8 m s => jnD true v6 (fun jj => jj (r q1) m s) m s fun v9 m s => jnD true v6 (fun jj => binK .add v8 v9 fun v => jj v m s) m s fun v10 m s => jnD true v6 (fun jj => fad n0 (r q2) fun v => jj v m s) m s fun v11 m s => jnD true v6 (fun jj => dL z m (nat_lit 65536) (nat_lit 34815) s v11 jj) m s fun v12 m s => jnD true v6 (fun jj => dw3 m (nat_lit 131072) (nat_lit 100351) s (fun s q => c n89 [v12] s q) jj) m s fun v13 m s => jnD true v6 (fun jj => binK .leq v10 v13 fun v => jj v m s) m s fun v14 m s => pck v6 v14 ff fun v15 => jnD true v15 (fun jj => fad n1 (r q2) fun v => jj v m s) m s fun v16 m s => jnD true v15 (fun jj => dL z m (nat_lit 4194304) (nat_lit 4194303) s v16 jj) m s fun v17 m s => jnD true v15 (fun jj => jj (r q1) m s) m s fun v18 m s => jnD true v15 (fun jj => binK .add v17 v18 fun v => jj v m s) m s fun v19 m s => jnD true v15 (fun jj => xS true U1 v19 c r s fun v s => jj v m s) m s fun v20 m s => jnD true v15 (fun jj => fad n0 (r q2) fun v => jj v m s) m s fun v21 m s => jnD true v15 (fun jj => dL z m (nat_lit 134217728) (nat_lit 69206015) s v21 jj) m s fun v22 m s => jnD true v15 (fun jj => dw3 m (nat_lit 268435456) (nat_lit 203423743) s (fun s q => c n24 [v22] s q) jj) m s fun v23 m s => jnD true v15 (fun jj => binK .sub v23 U1 fun v => jj v m s) m s fun v24 m s => jnD true v15 (fun jj => binK .lss v20 v24 fun v => jj v m s) m s fun v25 m s => pck v15 v25 ff fun v26 => jnD true v26 (fun jj => jj (r q1) m s) m s fun v27 m s => jnD true v26 (fun jj => xS true I1 v27 c r s fun v s => jj v m s) m s fun v28 m s => jnD true v26 (fun jj => dN z m (nat_lit 34359738368) (nat_lit 8589934591) s n8 (r q2) jj) m s fun v29 m s => jnD true v26 (fun jj => dw3 m (nat_lit 68719476736) (nat_lit 42949672959) s (fun s q => c n66 [v29] s q) jj) m s fun v30 m s => jnD true v26 (fun jj => binK .mul I2 v30 fun v => jj v m s) m s fun v31 m s => jnD true v26 (fun jj => binK .geq v28 v31 fun v => jj v m s) m s fun v32 m s => pck v26 v32 ff fun v33 => K [v33] s) s.next mk0)
 .ret)), [(.tmp q4)], [q0, q1], [q5, q6, q7, q8, q9, q10, q11, q12, q13, q14, q15, q16, q17, q18, q19, q20, q21, q22, q23, q24, q25, q26, q27, q28, q29, q30, q31, q32, q33, q34, q35, q36, q37, q38, q39, q40, q41, q42, q43, q44]⟩
/- attestor/prover.filled -/
noncomputable def cf52 : HF := ⟨
(.seq (.reg [q1, q2, q3] fun c r s K => bxx s (r q0) fun v0 s => alc s [zi, zi, zi, zi, zn, zn, zn, zn] fun v1 s => K [v0, v1, ff] s)
 (.seq (.reg [q4] fun c r s K => fad n4 (r q1) fun v0 => lN s n8 v0 fun v1 => alc s [zi, zi, zi, zi, zn, zn, zn, zn] fun v2 s => sto s n8 v2 v1 fun s => K [v2] s)
 (.seq (.seq (.reg [q31] fun c r s K => fad n12 (r q1) fun v0 => ld s v0 fun v1 => binK .lss v1 I0 fun v2 => jf v2 (fad n12 (r q1)) s fun v3 s => jf v2 (ld s v3) s fun v4 s => jf v2 (binK .gtr v4 (i6 n64)) s fun v5 s => pck v2 tt v5 fun v6 => jf v6 (fad n4 (r q4)) s fun v7 s => jf v6 (ld s v7) s fun v8 s => jf v6 (lnS v8) s fun v9 s => jf v6 (binK .gtr v9 I0) s fun v10 s => pck v6 tt v10 fun v11 => jf v11 (fad n1 (r q4)) s fun v12 s => jf v11 (ld s v12) s fun v13 s => jf v11 (binK .lss v13 I1) s fun v14 s => pck v11 tt v14 fun v15 => jf v15 (fad n1 (r q4)) s fun v16 s => jf v15 (ld s v16) s fun v17 s => jf v15 (binK .gtr v17 I13) s fun v18 s => pck v15 tt v18 fun v19 => K [v19] s)
 (.cond (.t q31) (.seq (.reg [q3] fun c r s K => h_op3_build [zi, zi, zi, zi, zn, zn, zn, zn] [] c r s fun v0 s => sto s n8 (r q2) v0 fun s => K [ff] s)
 .ret)
 .skip))
 (.seq (.reg [q5] fun c r s K => fad n1 (r q4) fun v0 => ld s v0 fun v1 => xS true I1 v1 c r s fun v2 s => xM n1 n8 [zu] v2 v2 c r s fun v3 s => K [v3] s)
 (.seq (.reg [] fun c r s K => h_op3_buildS n1 n1 [zn] [(n0, n1, (.c (r q5)))] c r s fun v0 s => fad n12 (r q1) fun v1 => ld s v1 fun v2 => c n81 [v0, v2] s fun v3 s => fad n4 (r q4) fun v4 => sto s n1 v4 v3 fun s => K [] s)
 (.seq (.reg [q3] fun c r s K => lN s n8 (r q4) fun v0 => sto s n8 (r q2) v0 fun s => K [tt] s)
 .ret)))))), [(.cellN n8 q2), (.tmp q3)], [q0], [q6, q7, q8, q9, q10, q11, q12, q13, q14, q15, q16, q17, q18, q19, q20, q21, q22, q23, q24, q25, q26, q27, q28, q29, q30, q32, q33, q34, q35, q36, q37, q38, q39, q40, q41, q42, q43]⟩
/- slices.Repeat[[][]uint64,[]uint64] -/
noncomputable def cf81 : HF := ⟨
(.seq (.reg [q4] fun c r s K => K [(.sc zn)] s)
 (.seq (.seq (.reg [q10] fun c r s K => binK .lss (r q1) I0 fun v0 => K [v0] s)
 (.cond (.t q10) (.reg [] fun c r s K => h_op4_iface n9 (.c (.sc (.lit (.string ⟨#[99, 97, 110, 110, 111, 116, 32, 98, 101, 32, 110, 101, 103, 97, 116, 105, 118, 101]⟩)))) c r s fun v0 s => h_op4_bad n102 c r s fun _ s => K [] s)
 .skip))
 (.seq (.reg [q5, q6] fun c r s K => lnS (r q0) fun v0 => cnv .u64 v0 fun v1 => cnv .u64 (r q1) fun v2 => c n116 [v1, v2] s fun v3 s => xE n0 v3 c r s fun v4 s => xE n1 v3 c r s fun v5 s => K [v4, v5] s)
 (.seq (.seq (.reg [q26] fun c r s K => binK .gtr (r q5) U0 fun v0 => mf v0 (r q6) s fun v1 s => jf v0 (binK .gtr v1 (u6 (nat_lit 9223372036854775807))) s fun v2 s => pck v0 tt v2 fun v3 => K [v3] s)
 (.cond (.t q26) (.reg [] fun c r s K => h_op4_iface n9 (.c (.sc (.lit (.string ⟨#[116, 104, 101, 32, 114, 101, 115, 117, 108, 116, 32, 111, 102, 32, 40, 108, 101, 110, 40, 120, 41, 32, 42, 32, 99, 111, 117, 110, 116, 41, 32, 111, 118, 101, 114, 102, 108, 111, 119, 115]⟩)))) c r s fun v0 s => h_op4_bad n102 c r s fun _ s => K [] s)
 .skip))
 (.seq (.reg [q7] fun c r s K => cnv .i64 (r q6) fun v0 => xM n1 n24 [zn] v0 v0 c r s fun v1 s => K [v1] s)
 (.seq (.reg [q8] fun c r s K => h_op3_copy n1 (.c (r q7)) (.c (r q0)) c r s fun v0 s => K [v0] s)
 (.seq (.block n0 (.loop (.seq (.seq (.reg [q37] fun c r s K => lnS (r q7) fun v0 => binK .lss (r q8) v0 fun v1 => K [v1] s)
 (.cond (.t q37) .skip
 (.exit n0)))
 (.block n1 (.drw [q8] fun c r s K => (fun z m => h_op3_sliceS n1 (.c (r q7)) (some (.c (r q8))) none none c r s fun v0 s => h_op3_sliceS n1 (.c (r q7)) none (some (.c (r q8))) none c r s fun v1 s => dw5 z m n128 n126 s (.more (.more (.copy n1 (.c v0) (.c v1)))) r (fun s q => h_op3_copy n1 (.c v0) (.c v1) c r s q) fun v2 m s => binK .add (r q8) v2 fun v3 => K [v3] s) s.next mk0)))))
 (.seq (.reg [q4] fun c r s K => K [(r q7)] s)
 .ret)))))))), [(.tmp q4)], [q0, q1], [q9, q11, q13, q14, q15, q16, q17, q18, q12, q19, q20, q21, q22, q23, q24, q25, q27, q28, q29, q30, q31, q32, q33, q34, q35, q36, q38, q39, q40, q41, q42, q43, q44, q45, q46, q47]⟩
/- math/bits.Mul -/
noncomputable def cf116 : HF := ⟨
(.seq (.reg [q4, q5] fun c r s K => K [U0, U0] s)
 (.seq (.cond (.c (.sc (.bool false))) (.seq (.reg [q6, q7] fun c r s K => cnv .u32 (r q0) fun v0 => cnv .u32 (r q1) fun v1 => c n156 [v0, v1] s fun v2 s => xE n0 v2 c r s fun v3 s => xE n1 v2 c r s fun v4 s => K [v3, v4] s)
 (.seq (.reg [q4, q5] fun c r s K => cnv .u64 (r q6) fun v0 => cnv .u64 (r q7) fun v1 => K [v0, v1] s)
 .ret))
 .skip)
 (.seq (.reg [q8, q9] fun c r s K => c n157 [(r q0), (r q1)] s fun v0 s => xE n0 v0 c r s fun v1 s => xE n1 v0 c r s fun v2 s => K [v1, v2] s)
 (.seq (.reg [q4, q5] fun c r s K => K [(r q8), (r q9)] s)
 .ret)))), [(.tmp q4), (.tmp q5)], [q0, q1], [q11, q12, q13, q14, q15, q10, q16, q17, q18, q19, q20, q21, q23, q24, q25, q22, q26, q27, q28, q29]⟩
/- math/bits.Mul64 -/
noncomputable def cf157 : HF := ⟨
(.seq (.reg [q4, q5] fun c r s K => K [U0, U0] s)
 (.seq (.reg [q6] fun c r s K => binK .and (r q0) (u6 (nat_lit 4294967295)) fun v0 => K [v0] s)
 (.seq (.reg [q7] fun c r s K => xS false (r q0) U32 c r s fun v0 s => K [v0] s)
 (.seq (.reg [q8] fun c r s K => binK .and (r q1) (u6 (nat_lit 4294967295)) fun v0 => K [v0] s)
 (.seq (.reg [q9] fun c r s K => xS false (r q1) U32 c r s fun v0 s => K [v0] s)
 (.seq (.reg [q10] fun c r s K => binK .mul (r q6) (r q8) fun v0 => K [v0] s)
 (.seq (.reg [q11] fun c r s K => binK .mul (r q7) (r q8) fun v0 => xS false (r q10) U32 c r s fun v1 s => binK .add v0 v1 fun v2 => K [v2] s)
 (.seq (.reg [q12] fun c r s K => binK .and (r q11) (u6 (nat_lit 4294967295)) fun v0 => K [v0] s)
 (.seq (.reg [q13] fun c r s K => xS false (r q11) U32 c r s fun v0 s => K [v0] s)
 (.seq (.reg [q12] fun c r s K => binK .mul (r q6) (r q9) fun v0 => binK .add (r q12) v0 fun v1 => K [v1] s)
 (.seq (.reg [q4] fun c r s K => binK .mul (r q7) (r q9) fun v0 => binK .add v0 (r q13) fun v1 => xS false (r q12) U32 c r s fun v2 s => binK .add v1 v2 fun v3 => K [v3] s)
 (.seq (.reg [q5] fun c r s K => binK .mul (r q0) (r q1) fun v0 => K [v0] s)
 .ret)))))))))))), [(.tmp q4), (.tmp q5)], [q0, q1], [q14, q15, q16, q17, q18, q19, q20, q21, q22, q23, q24, q25, q26, q27, q28, q29, q30, q31, q32, q33, q34, q35, q36, q37, q38, q39, q40, q41, q42, q43, q44, q45, q46, q47, q48, q49, q50]⟩
/- math/bits.Mul32 -/
noncomputable def cf156 : HF := ⟨
(.seq (.reg [q4, q5] fun c r s K => (fun v0 => (fun v1 => K [v0, v1] s) (.sc (.int .u32 (.ofNat n0)))) (.sc (.int .u32 (.ofNat n0))))
 (.seq (.reg [q6] fun c r s K => cnv .u64 (r q0) fun v0 => cnv .u64 (r q1) fun v1 => binK .mul v0 v1 fun v2 => K [v2] s)
 (.seq (.reg [q4, q5] fun c r s K => xS false (r q6) U32 c r s fun v0 s => cnv .u32 v0 fun v1 => cnv .u32 (r q6) fun v2 => K [v1, v2] s)
 .ret))), [(.tmp q4), (.tmp q5)], [q0, q1], [q7, q8, q9, q10, q11, q12, q13, q14, q15, q16]⟩
/- attestor/stream.New -/
noncomputable def cf4 : HF := ⟨
(.seq (.reg [q2, q4, q5] fun c r s K => bxx s (r q0) fun v0 s => K [v0, (.sc .nilp), I0] s)
 (.seq (.reg [q6, q7] fun c r s K => lN s n14 (r q2) fun v0 => c n13 [v0, (r q1)] s fun v1 s => xE n0 v1 c r s fun v2 s => xE n1 v1 c r s fun v3 s => alc s [zi, zu, zu, zu, zu] fun v4 s => sto s n5 v4 v2 fun s => K [v4, v3] s)
 (.seq (.seq (.reg [q18] fun c r s K => binK .neq (r q7) I0 fun v0 => K [v0] s)
 (.cond (.t q18) (.seq (.reg [q4, q5] fun c r s K => K [(.sc .nilp), I1] s)
 .ret)
 .skip))
 (.seq (.reg [q8] fun c r s K => lN s n14 (r q2) fun v0 => c n14 [v0] s fun v1 s => xE n0 v1 c r s fun v2 s => xE n1 v1 c r s fun v3 s => alc s [zi, zi, zi, zi, zi, zi, zi, zi, zi] fun v4 s => sto s n9 v4 v2 fun s => K [v4] s)
 (.seq (.drw [q10] fun c r s K => (fun z m => dN z m n1 n0 s n14 (r q2) fun v0 m s => dw3 m n2 n1 s (fun s q => c n15 [v0] s q) fun v1 m s => dN z m n4 n0 s n9 (r q8) fun v2 m s => dw3 m n16 n11 s (fun s q => c n16 [(r q1)] s q) fun v3 m s => fad n0 (r q2) fun v4 => fad n3 v4 fun v5 => dL z m n128 n96 s v5 fun v6 m s => dN z m (nat_lit 256) n0 s n9 (r q8) fun v7 m s => dw3 m (nat_lit 512) (nat_lit 283) s (fun s q => c n17 [v7] s q) fun v8 m s => dN z m (nat_lit 1024) n0 s n5 (r q6) fun v9 m s => h_op3_build [zi, zi, zi, zi, zi, zi, zi, zi, zn, zn, zn, zn, zi, zn, zi, zi, zi, zi, zi, zi, zi, zi, zi, zn, zi, zi, zi, zi, zn, zi, zi, (.lit .nilFunc), zi, zu, zu, zu, zu, zn, zu, zu, zn, (.bool false), zn, zi, zi, zi] [(n0, n14, (.c v1)), (n14, n9, (.c v2)), (n23, n1, (.c v3)), (n24, n1, (.c v6)), (n27, n1, (.c v8)), (n32, n5, (.c v9))] c r s fun v10 s => dw1 m (nat_lit 4096) (fun q => bxx s v10 q) fun v11 m s => K [v11] s) s.next mk0)
 (.seq (.reg [] fun c r s K => lN s n9 (r q8) fun v0 => c n18 [v0] s fun v1 s => xE n0 v1 c r s fun v2 s => xE n1 v1 c r s fun v3 s => xC (r q10) c r s fun v4 s => fad n25 v4 fun v5 => sto s n1 v5 v2 fun s => xC (r q10) c r s fun v7 s => fad n26 v7 fun v8 => sto s n1 v8 v3 fun s => K [] s)
 (.seq (.reg [] fun c r s K => xC (r q10) c r s fun v0 s => fad n0 v0 fun v1 => fad n0 v1 fun v2 => fad n2 v2 fun v3 => sto s n1 v3 I1 fun s => xC (r q10) c r s fun v5 s => fad n14 v5 fun v6 => fad n4 v6 fun v7 => sto s n1 v7 I1 fun s => K [] s)
 (.seq (.reg [] fun c r s K => xC (r q10) c r s fun v0 s => fad n25 v0 fun v1 => ld s v1 fun v2 => binK .mul I4 v2 fun v3 => xC (r q10) c r s fun v4 s => fad n30 v4 fun v5 => sto s n1 v5 v3 fun s => xC (r q10) c r s fun v7 s => fad n31 v7 fun v8 => sto s n1 v8 (.sc (.fn n19)) fun s => K [] s)
 (.seq (.reg [q4, q5] fun c r s K => K [(r q10), I0] s)
 .ret))))))))), [(.tmp q4), (.tmp q5)], [q0, q1], [q12, q13, q14, q11, q15, q16, q17, q20, q21, q19, q22, q23, q9, q24, q25, q26, q27, q28, q29, q30, q31, q32, q33, q34, q35, q36, q38, q39, q40, q41, q37, q42, q43, q44, q45, q46, q47, q48, q49, q50, q51, q52, q53, q54, q55, q56, q57, q58, q59, q60, q61, q62, q63, q64, q65, q66, q67, q68]⟩
/- (*attestor/stream.Checker).begun -/
noncomputable def cf19 : HF := ⟨
(.seq (.reg [q2] fun c r s K => c n46 [(r q0)] s fun v0 s => alc s [zn, zn, zn, zu, zn, zn, zu, zn] fun v1 s => sto s n8 v1 v0 fun s => K [v1] s)
 (.seq (.drw [q3] fun c r s K => (fun z m => xC (r q0) c r s fun v0 s => fad n32 v0 fun v1 => dN z m n8 n7 s n5 v1 fun v2 m s => fad n0 (r q2) fun v3 => dL z m n32 n16 s v3 fun v4 m s => dw3 m n64 n63 s (fun s q => c n27 [v2, v4] s q) fun v5 m s => dw1 m n128 (fun q => alc s [zi, zu, zu, zu, zu] q) fun v6 m s => dS z m (nat_lit 256) (nat_lit 255) s n5 v6 v5 fun _ m s => K [v6] s) s.next mk0)
 (.seq (.reg [] fun c r s K => lN s n5 (r q3) fun v0 => fad n3 (r q2) fun v1 => ld s v1 fun v2 => h_op3_buildS n1 n1 [zu] [(n0, n1, (.c v2))] c r s fun v3 s => c n26 [v0, v3] s fun v4 s => sto s n5 (r q3) v4 fun s => K [] s)
 (.seq (.seq (.reg [q26] fun c r s K => xC (r q0) c r s fun v0 s => fad n14 v0 fun v1 => fad n7 v1 fun v2 => ld s v2 fun v3 => binK .gtr v3 I0 fun v4 => K [v4] s)
 (.cond (.t q26) (.seq (.reg [] fun c r s K => xM n1 n8 [zu] I2 I2 c r s fun v0 s => xC (r q0) c r s fun v1 s => fad n37 v1 fun v2 => fad n0 v2 fun v3 => sto s n1 v3 v0 fun s => K [] s)
 (.seq (.seq (.reg [q37, q38] fun c r s K => xC (r q0) c r s fun v0 s => fad n37 v0 fun v1 => fad n0 v1 fun v2 => ld s v2 fun v3 => lnS v3 fun v4 => K [v4, I0] s)
 (.block n0 (.loop (.seq (.reg [q39] fun c r s K => binK .lss (r q38) (r q37) fun v0 => K [v0] s)
 (.seq (.cond (.t q39) .skip
 (.exit n0))
 (.seq (.block n1 (.seq (.reg [q4] fun c r s K => K [(r q38)] s)
 (.drw [] fun c r s K => (fun z m => xC (r q0) c r s fun v0 s => fad n37 v0 fun v1 => fad n0 v1 fun v2 => dL z m n16 n15 s v2 fun v3 m s => dN z m n64 n0 s n5 (r q3) fun v4 m s => dw3 m n128 n64 s (fun s q => c n47 [v4] s q) fun v5 m s => xE n0 v5 c r s fun v6 s => xE n1 v5 c r s fun v7 s => dS z m (nat_lit 2048) (nat_lit 960) s n5 (r q3) v6 fun _ m s => ixs n1 v3 (r q4) fun v9 => dS z m (nat_lit 8192) (nat_lit 8191) s n1 v9 v7 fun _ m s => K [] s) s.next mk0)))
 (.reg [q38] fun c r s K => binK .add (r q38) I1 fun v0 => K [v0] s)))))))
 (.reg [] fun c r s K => lN s n5 (r q3) fun v0 => fad n1 (r q2) fun v1 => ld s v1 fun v2 => c n27 [v0, v2] s fun v3 s => sto s n5 (r q3) v3 fun s => K [] s)))
 .skip))
 (.seq (.reg [] fun c r s K => lN s n5 (r q3) fun v0 => c n47 [v0] s fun v1 s => xE n0 v1 c r s fun v2 s => xE n1 v1 c r s fun v3 s => sto s n5 (r q3) v2 fun s => xC (r q0) c r s fun v5 s => fad n37 v5 fun v6 => fad n1 v6 fun v7 => sto s n1 v7 v3 fun s => K [] s)
 (.seq (.reg [] fun c r s K => lN s n5 (r q3) fun v0 => fad n2 (r q2) fun v1 => ld s v1 fun v2 => c n27 [v0, v2] s fun v3 s => c n47 [v3] s fun v4 s => xE n0 v4 c r s fun v5 s => xE n1 v4 c r s fun v6 s => sto s n5 (r q3) v5 fun s => xC (r q0) c r s fun v8 s => fad n37 v8 fun v9 => fad n2 v9 fun v10 => sto s n1 v10 v6 fun s => K [] s)
 (.seq (.reg [q5] fun c r s K => xC (r q0) c r s fun v0 s => fad n0 v0 fun v1 => lN s n14 v1 fun v2 => c n48 [v2] s fun v3 s => xE n0 v3 c r s fun v4 s => xE n1 v3 c r s fun v5 s => alc s [zi, zi, zu, zi, zi] fun v6 s => sto s n5 v6 v4 fun s => K [v6] s)
 (.seq (.reg [] fun c r s K => lN s n5 (r q5) fun v0 => fad n4 (r q2) fun v1 => ld s v1 fun v2 => fad n5 (r q2) fun v3 => ld s v3 fun v4 => h_op3_build [zn, zn] [(n0, n1, (.c v2)), (n1, n1, (.c v4))] c r s fun v5 s => lN s n5 (r q3) fun v6 => c n49 [v0, v5, v6] s fun v7 s => xE n0 v7 c r s fun v8 s => xE n1 v7 c r s fun v9 s => xE n2 v7 c r s fun v10 s => xC (r q0) c r s fun v11 s => fad n37 v11 fun v12 => fad n3 v12 fun v13 => sto s n1 v13 v8 fun s => sto s n5 (r q3) v9 fun s => K [] s)
 (.seq (.drw [] fun c r s K => (fun z m => dN z m n4 n0 s n5 (r q3) fun v0 m s => fad n6 (r q2) fun v1 => dL z m n16 n8 s v1 fun v2 m s => xC (r q0) c r s fun v3 s => fad n24 v3 fun v4 => dL z m (nat_lit 256) (nat_lit 224) s v4 fun v5 m s => dw3 m (nat_lit 512) (nat_lit 508) s (fun s q => c n50 [v0, v2, v5] s q) fun v6 m s => xE n0 v6 c r s fun v7 s => xE n1 v6 c r s fun v8 s => xC (r q0) c r s fun v9 s => fad n32 v9 fun v10 => dS z m (nat_lit 32768) (nat_lit 28669) s n5 v10 v7 fun _ m s => xC (r q0) c r s fun v12 s => fad n37 v12 fun v13 => fad n4 v13 fun v14 => dS z m (nat_lit 524288) (nat_lit 524287) s n1 v14 v8 fun _ m s => K [] s) s.next mk0)
 (.seq (.seq (.reg [q126] fun c r s K => xC (r q0) c r s fun v0 s => fad n37 v0 fun v1 => fad n4 v1 fun v2 => ld s v2 fun v3 => nott v3 fun v4 => K [v4] s)
 (.cond (.t q126) (.reg [] fun c r s K => xC (r q0) c r s fun v0 s => fad n43 v0 fun v1 => sto s n1 v1 I14 fun s => K [] s)
 .skip))
 (.drw [] fun c r s K => (fun z m => xC (r q0) c r s fun v0 s => fad n25 v0 fun v1 => dL z m n32 n28 s v1 fun v2 m s => xC (r q0) c r s fun v3 s => fad n26 v3 fun v4 => dL z m (nat_lit 512) (nat_lit 448) s v4 fun v5 m s => binK .add v2 v5 fun v6 => binK .mul I4 v6 fun v7 => xC (r q0) c r s fun v8 s => fad n30 v8 fun v9 => dS z m (nat_lit 16384) (nat_lit 16381) s n1 v9 v7 fun _ m s => xC (r q0) c r s fun v11 s => fad n31 v11 fun v12 => dS z m (nat_lit 131072) (nat_lit 131071) s n1 v12 (.sc (.fn n51)) fun _ m s => K [] s) s.next mk0))))))))))), [], [q0], [q7, q8, q9, q10, q11, q12, q13, q14, q15, q16, q17, q18, q19, q20, q21, q22, q23, q24, q25, q27, q28, q29, q30, q31, q32, q33, q34, q35, q36, q40, q42, q43, q44, q45, q46, q47, q48, q49, q41, q50, q51, q52, q53, q54, q55, q56, q57, q59, q60, q61, q58, q62, q63, q64, q65, q66, q68, q69, q70, q71, q72, q73, q67, q74, q75, q76, q77, q78, q80, q81, q82, q83, q84, q79, q85, q86, q6, q88, q89, q90, q91, q92, q93, q94, q95, q96, q87, q97, q98, q99, q100, q101, q102, q104, q105, q106, q107, q108, q109, q110, q111, q112, q113, q103, q114, q115, q116, q117, q118, q119, q120, q121, q122, q123, q124, q125, q127, q128, q129, q130, q131, q132, q133, q134, q135, q136, q137, q138, q139, q140, q141, q142, q143, q144, q145]⟩
/- (*attestor/stream.Checker).opened -/
noncomputable def cf51 : HF := ⟨
(.seq (.seq (.reg [q7] fun c r s K => xC (r q0) c r s fun v0 s => fad n43 v0 fun v1 => ld s v1 fun v2 => binK .eql v2 I0 fun v3 => K [v3] s)
 (.cond (.t q7) (.seq (.reg [q2] fun c r s K => K [I0] s)
 (.seq (.drw [q2] fun c r s K => (fun z m => xC (r q0) c r s fun v0 s => fad n32 v0 fun v1 => dN z m n16 n14 s n5 v1 fun v2 m s => xC (r q0) c r s fun v3 s => fad n14 v3 fun v4 => fad n1 v4 fun v5 => dL z m (nat_lit 512) (nat_lit 480) s v5 fun v6 m s => xC (r q0) c r s fun v7 s => fad n14 v7 fun v8 => fad n2 v8 fun v9 => dL z m (nat_lit 16384) (nat_lit 15360) s v9 fun v10 m s => binK .add v6 v10 fun v11 => dw3 m (nat_lit 65536) (nat_lit 65534) s (fun s q => c n79 [v2, v11] s q) fun v12 m s => xE n0 v12 c r s fun v13 s => xE n1 v12 c r s fun v14 s => xC (r q0) c r s fun v15 s => fad n32 v15 fun v16 => dS z m (nat_lit 4194304) (nat_lit 3670015) s n5 v16 v13 fun _ m s => K [v14] s) s.next mk0)
 (.seq (.reg [] fun c r s K => h_op3_buildS n1 n1 [zi] [(n0, n1, (.c (r q2)))] c r s fun v0 s => xC (r q0) c r s fun v1 s => fad n37 v1 fun v2 => fad n5 v2 fun v3 => sto s n1 v3 v0 fun s => K [] s)
 (.drw [] fun c r s K => (fun z m => xC (r q0) c r s fun v0 s => fad n0 v0 fun v1 => dN z m n16 n14 s n14 v1 fun v2 m s => xC (r q0) c r s fun v3 s => fad n23 v3 fun v4 => dL z m (nat_lit 256) (nat_lit 224) s v4 fun v5 m s => dw3 m (nat_lit 1024) (nat_lit 512) s (fun s q => c n46 [(r q0)] s q) fun v6 m s => xC (r q0) c r s fun v7 s => fad n37 v7 fun v8 => dN z m (nat_lit 16384) (nat_lit 14336) s n6 v8 fun v9 m s => dw3 m (nat_lit 32768) (nat_lit 32766) s (fun s q => c n80 [v2, v5, v6, v9, I0] s q) fun v10 m s => xC (r q0) c r s fun v11 s => fad n43 v11 fun v12 => dS z m (nat_lit 262144) (nat_lit 262143) s n1 v12 v10 fun _ m s => K [] s) s.next mk0))))
 .skip))
 (.drw [] fun c r s K => (fun z m => xC (r q0) c r s fun v0 s => fad n28 v0 fun v1 => dL z m n16 n14 s v1 fun v2 m s => xC (r q0) c r s fun v3 s => fad n25 v3 fun v4 => dL z m (nat_lit 256) (nat_lit 224) s v4 fun v5 m s => binK .mul I4 v5 fun v6 => h_op3_sliceS n1 (.c v2) none (some (.c v6)) none c r s fun v7 s => xC (r q0) c r s fun v8 s => fad n28 v8 fun v9 => dS z m (nat_lit 8192) (nat_lit 8191) s n1 v9 v7 fun _ m s => K [] s) s.next mk0)), [], [q0], [q3, q4, q5, q6, q9, q10, q11, q12, q13, q14, q15, q16, q17, q18, q19, q20, q21, q22, q23, q24, q25, q8, q26, q27, q28, q29, q30, q31, q32, q33, q34, q35, q36, q37, q38, q39, q40, q41, q42, q43, q44, q45, q46, q47, q48, q49, q50, q51, q52, q53, q54, q55, q56, q57, q58, q59, q60, q61, q62, q63, q64, q65, q66]⟩
/- attestor/verifier.Opens -/
noncomputable def cf80 : HF := ⟨
(.seq (.reg [q5, q7, q8, q10] fun c r s K => bxx s (r q0) fun v0 s => bxx s (r q2) fun v1 s => bxx s (r q3) fun v2 s => K [v0, v1, v2, I0] s)
 (.seq (.seq (.reg [q12] fun c r s K => lN s n14 (r q5) fun v0 => lN s n8 (r q7) fun v1 => c n113 [v0, (r q1), v1] s fun v2 s => xE n0 v2 c r s fun v3 s => xE n1 v2 c r s fun v4 s => alc s [zn, zu, zu, zn, (.bool false), zn] fun v5 s => sto s n6 v5 v3 fun s => K [v4] s)
 (.seq (.reg [q23] fun c r s K => binK .neq (r q12) I0 fun v0 => K [v0] s)
 (.cond (.t q23) (.seq (.reg [q10] fun c r s K => K [(r q12)] s)
 .ret)
 .skip)))
 (.seq (.reg [q13] fun c r s K => lN s n14 (r q5) fun v0 => c n14 [v0] s fun v1 s => xE n0 v1 c r s fun v2 s => xE n1 v1 c r s fun v3 s => alc s [zi, zi, zi, zi, zi, zi, zi, zi, zi] fun v4 s => sto s n9 v4 v2 fun s => K [v4] s)
 (.seq (.seq (.reg [q34] fun c r s K => lN s n9 (r q13) fun v0 => lN s n6 (r q8) fun v1 => c n114 [v0, v1, (r q4)] s fun v2 s => nott v2 fun v3 => K [v3] s)
 (.cond (.t q34) (.seq (.reg [q10] fun c r s K => K [I1] s)
 .ret)
 .skip))
 (.seq (.reg [q10] fun c r s K => lN s n14 (r q5) fun v0 => lN s n8 (r q7) fun v1 => lN s n6 (r q8) fun v2 => c n115 [v0, (r q1), v1, v2, (r q4)] s fun v3 s => K [v3] s)
 .ret))))), [(.tmp q10)], [q0, q1, q2, q3, q4], [q16, q17, q18, q19, q15, q20, q21, q11, q22, q24, q26, q27, q25, q28, q29, q14, q30, q31, q32, q33, q35, q36, q37, q38, q39, q40]⟩
end Go.Proofs.YtlgedjkkodhdnabGreatDoor.Ev
