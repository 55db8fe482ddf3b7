/- Compiled functions of the translated program, and that each is what the compiler makes of it; no conditions. -/
import Derived.Test.YtgknegdikgdfeaaDoorEvC
import Derived.KernelRfl
namespace Go.Proofs.YtgknegdikgdfeaaDoor.Ev
set_option maxRecDepth 100000
set_option linter.unusedVariables false
/- attestor/attestorlaw12.MonoValues -/
noncomputable def cf5 : HF := ⟨
(.seq (.reg [q5, q6] fun c r s K => bxx s (r q2) fun v0 s => K [v0, ff] s)
 (.seq (.seq (.reg [q13] fun c r s K => c n8 [(r q1)] s fun v0 s => nott v0 fun v1 => K [v1] s)
 (.cond (.t q13) (.seq (.reg [q6] fun c r s K => c n9 [] s fun v0 s => K [v0] s)
 .ret)
 .skip))
 (.seq (.reg [q7, q8] fun c r s K => lN s n7 (r q5) fun v0 => c n15 [(r q0), (r q1), v0] s fun v1 s => xE n0 v1 c r s fun v2 s => xE n1 v1 c r s fun v3 s => K [v2, v3] s)
 (.seq (.reg [q9, q10] fun c r s K => lN s n7 (r q5) fun v0 => c n19 [(r q0), (r q1), v0] s fun v1 s => xE n0 v1 c r s fun v2 s => xE n1 v1 c r s fun v3 s => K [v2, v3] s)
 (.seq (.reg [q6] fun c r s K => binK .eql (r q7) (r q9) fun v0 => mt v0 (r q8) s fun v1 s => mt v0 (r q10) s fun v2 s => jt v0 (binK .eql v1 v2) s fun v3 s => pck v0 v3 ff fun v4 => mt v4 (r q1) s fun v5 s => jn true v4 (fun j => c n20 [v5] s j) s fun v6 s => mt v4 (r q1) s fun v7 s => jn true v4 (fun j => c n21 [v7] s j) s fun v8 s => jt v4 (binK .eql v6 v8) s fun v9 s => pck v4 v9 ff fun v10 => jn true v10 (fun j => c n9 [] s j) s fun v11 s => pck v10 v11 ff fun v12 => K [v12] s)
 .ret))))), [(.tmp q6)], [q0, q1, q2], [q11, q12, q14, q16, q17, q18, q19, q15, q20, q21, q23, q24, q25, q26, q22, q27, q28, q29, q30, q31, q32, q33, q34, q35, q36, q37, q38, q39, q40, q41, q42, q43, q44, q45, q46]⟩
/- attestor/attestorref12.Degree -/
noncomputable def cf21 : HF := ⟨
(.seq (.reg [q2] fun c r s K => K [I0] s)
 (.seq (.reg [q3] fun c r s K => K [I0] s)
 (.seq (.seq (.reg [q4] fun c r s K => K [I0] s)
 (.block n0 (.loop (.seq (.seq (.reg [q10] fun c r s K => lnS (r q0) fun v0 => binK .lss (r q4) v0 fun v1 => K [v1] s)
 (.cond (.t q10) .skip
 (.exit n0)))
 (.seq (.block n1 (.seq (.reg [q5] fun c r s K => K [I0] s)
 (.seq (.seq (.reg [q6] fun c r s K => K [I0] s)
 (.block n2 (.loop (.seq (.seq (.reg [q20] fun c r s K => ixs n2 (r q0) (r q4) fun v0 => fad n1 v0 fun v1 => ld s v1 fun v2 => lnS v2 fun v3 => binK .lss (r q6) v3 fun v4 => K [v4] s)
 (.cond (.t q20) .skip
 (.exit n2)))
 (.seq (.block n3 (.seq (.reg [q32] fun c r s K => ixs n2 (r q0) (r q4) fun v0 => fad n1 v0 fun v1 => ld s v1 fun v2 => ixs n2 v2 (r q6) fun v3 => fad n0 v3 fun v4 => ld s v4 fun v5 => c n47 [v5] s fun v6 s => K [v6] s)
 (.cond (.t q32) (.reg [q5] fun c r s K => binK .add (r q5) I1 fun v0 => K [v0] s)
 .skip)))
 (.reg [q6] fun c r s K => binK .add (r q6) I1 fun v0 => K [v0] s))))))
 (.reg [q3] fun c r s K => h_op4_minmax true [(.c (r q3)), (.c (r q5))] c r s fun v0 s => K [v0] s))))
 (.reg [q4] fun c r s K => binK .add (r q4) I1 fun v0 => K [v0] s))))))
 (.seq (.reg [q2] fun c r s K => K [(r q3)] s)
 .ret)))), [(.tmp q2)], [q0], [q7, q8, q9, q13, q14, q15, q16, q17, q18, q19, q23, q24, q25, q26, q27, q28, q29, q30, q31, q33, q34, q21, q22, q35, q36, q37, q11, q12, q38]⟩
/- attestor/attestorref12.counts -/
noncomputable def cf47 : HF := ⟨
(.seq (.reg [q2] fun c r s K => K [ff] s)
 (.seq (.reg [q2] fun c r s K => binK .eql (r q0) B1 fun v0 => mf v0 (r q0) s fun v1 s => jf v0 (binK .eql v1 B2) s fun v2 s => pck v0 tt v2 fun v3 => mf v3 (r q0) s fun v4 s => jf v3 (binK .eql v4 B3) s fun v5 s => pck v3 tt v5 fun v6 => mf v6 (r q0) s fun v7 s => jf v6 (binK .eql v7 B5) s fun v8 s => pck v6 tt v8 fun v9 => mf v9 (r q0) s fun v10 s => jf v9 (binK .eql v10 B6) s fun v11 s => pck v9 tt v11 fun v12 => K [v12] s)
 .ret)), [(.tmp q2)], [q0], [q3, q4, q5, q6, q7, q8, q9, q10, q11, q12, q13, q14, q15, q16, q17, q18, q19, q20]⟩
/- attestor/mono.Degree -/
noncomputable def cf20 : HF := ⟨
(.seq (.reg [q2] fun c r s K => K [I0] s)
 (.seq (.reg [q3] fun c r s K => K [I0] s)
 (.seq (.seq (.reg [q9, q10, q11] fun c r s K => lnS (r q0) fun v0 => K [(r q0), v0, I0] s)
 (.block n0 (.loop (.seq (.reg [q12] fun c r s K => binK .lss (r q11) (r q10) fun v0 => K [v0] s)
 (.seq (.cond (.t q12) .skip
 (.exit n0))
 (.seq (.block n1 (.seq (.reg [q5] fun c r s K => ixs n2 (r q9) (r q11) fun v0 => lN s n2 v0 fun v1 => alc s [zu, zn] fun v2 s => sto s n2 v2 v1 fun s => K [v2] s)
 (.seq (.reg [q6] fun c r s K => K [I0] s)
 (.seq (.seq (.reg [q16, q17, q18] fun c r s K => fad n1 (r q5) fun v0 => ld s v0 fun v1 => lnS v1 fun v2 => K [v1, v2, I0] s)
 (.block n2 (.loop (.seq (.reg [q19] fun c r s K => binK .lss (r q18) (r q17) fun v0 => K [v0] s)
 (.seq (.cond (.t q19) .skip
 (.exit n2))
 (.seq (.block n3 (.seq (.reg [q8] fun c r s K => ixs n2 (r q16) (r q18) fun v0 => lN s n2 v0 fun v1 => alc s [zb, zi] fun v2 s => sto s n2 v2 v1 fun s => K [v2] s)
 (.seq (.reg [q23] fun c r s K => fad n0 (r q8) fun v0 => ld s v0 fun v1 => K [v1] s)
 (.block n4 (.seq (.seq (.reg [q24] fun c r s K => binK .eql (r q23) B1 fun v0 => K [v0] s)
 (.cond (.t q24) .skip
 (.seq (.reg [q24] fun c r s K => binK .eql (r q23) B2 fun v0 => K [v0] s)
 (.cond (.t q24) .skip
 (.seq (.reg [q24] fun c r s K => binK .eql (r q23) B3 fun v0 => K [v0] s)
 (.cond (.t q24) .skip
 (.seq (.reg [q24] fun c r s K => binK .eql (r q23) B5 fun v0 => K [v0] s)
 (.cond (.t q24) .skip
 (.reg [q24] fun c r s K => binK .eql (r q23) B6 fun v0 => K [v0] s)))))))))
 (.cond (.t q24) (.reg [q6] fun c r s K => binK .add (r q6) I1 fun v0 => K [v0] s)
 .skip))))))
 (.reg [q18] fun c r s K => binK .add (r q18) I1 fun v0 => K [v0] s)))))))
 (.reg [q3] fun c r s K => h_op4_minmax true [(.c (r q3)), (.c (r q6))] c r s fun v0 s => K [v0] s)))))
 (.reg [q11] fun c r s K => binK .add (r q11) I1 fun v0 => K [v0] s)))))))
 (.seq (.reg [q2] fun c r s K => K [(r q3)] s)
 .ret)))), [(.tmp q2)], [q0], [q13, q14, q15, q20, q21, q22, q25, q26, q27, q28, q29, q30, q31, q32, q33, q34, q35, q36, q37]⟩
/- attestor/attestorref12.Value -/
noncomputable def cf19 : HF := ⟨
(.seq (.reg [q5, q6, q7] fun c r s K => bxx s (r q2) fun v0 s => K [v0, U0, I0] s)
 (.seq (.seq (.reg [q16] fun c r s K => c n22 [(r q0)] s fun v0 s => nott v0 fun v1 => K [v1] s)
 (.cond (.t q16) (.seq (.reg [q6, q7] fun c r s K => K [U0, I1] s)
 .ret)
 .skip))
 (.seq (.reg [q8] fun c r s K => K [U0] s)
 (.seq (.seq (.reg [q9] fun c r s K => K [I0] s)
 (.block n0 (.loop (.seq (.seq (.reg [q20] fun c r s K => lnS (r q1) fun v0 => binK .lss (r q9) v0 fun v1 => K [v1] s)
 (.cond (.t q20) .skip
 (.exit n0)))
 (.seq (.block n1 (.seq (.reg [q10] fun c r s K => ixs n2 (r q1) (r q9) fun v0 => fad n0 v0 fun v1 => ld s v1 fun v2 => c n17 [(r q0), v2, U0] s fun v3 s => K [v3] s)
 (.seq (.seq (.reg [q11] fun c r s K => K [I0] s)
 (.block n2 (.loop (.seq (.seq (.reg [q37] fun c r s K => ixs n2 (r q1) (r q9) fun v0 => fad n1 v0 fun v1 => ld s v1 fun v2 => lnS v2 fun v3 => binK .lss (r q11) v3 fun v4 => K [v4] s)
 (.cond (.t q37) .skip
 (.exit n2)))
 (.seq (.block n3 (.seq (.reg [q12] fun c r s K => ixs n2 (r q1) (r q9) fun v0 => fad n1 v0 fun v1 => ld s v1 fun v2 => ixs n2 v2 (r q11) fun v3 => lN s n2 v3 fun v4 => alc s [zb, zi] fun v5 s => sto s n2 v5 v4 fun s => K [v5] s)
 (.seq (.reg [q13] fun c r s K => fad n0 (r q12) fun v0 => ld s v0 fun v1 => lN s n7 (r q5) fun v2 => c n46 [v1, v2] s fun v3 s => K [v3] s)
 (.seq (.seq (.reg [q61] fun c r s K => fad n1 (r q12) fun v0 => ld s v0 fun v1 => binK .lss v1 I0 fun v2 => jf v2 (fad n1 (r q12)) s fun v3 s => jf v2 (ld s v3) s fun v4 s => mf v2 (r q13) s fun v5 s => jf v2 (lnS v5) s fun v6 s => jf v2 (binK .geq v4 v6) s fun v7 s => pck v2 tt v7 fun v8 => K [v8] s)
 (.cond (.t q61) (.seq (.reg [q6, q7] fun c r s K => K [U0, I2] s)
 .ret)
 .skip))
 (.reg [q10] fun c r s K => fad n1 (r q12) fun v0 => ld s v0 fun v1 => ixs n1 (r q13) v1 fun v2 => ld s v2 fun v3 => c n18 [(r q0), (r q10), v3] s fun v4 s => K [v4] s)))))
 (.reg [q11] fun c r s K => binK .add (r q11) I1 fun v0 => K [v0] s))))))
 (.reg [q8] fun c r s K => c n17 [(r q0), (r q8), (r q10)] s fun v0 s => K [v0] s))))
 (.reg [q9] fun c r s K => binK .add (r q9) I1 fun v0 => K [v0] s))))))
 (.seq (.reg [q6, q7] fun c r s K => K [(r q8), I0] s)
 .ret))))), [(.tmp q6), (.tmp q7)], [q0, q1, q2], [q14, q15, q17, q18, q19, q23, q24, q25, q26, q27, q28, q29, q30, q31, q32, q33, q34, q35, q36, q40, q41, q42, q43, q44, q45, q46, q47, q48, q49, q50, q51, q52, q53, q54, q55, q56, q57, q58, q59, q60, q62, q63, q64, q65, q66, q67, q68, q69, q38, q39, q70, q71, q72, q73, q21, q22, q74]⟩
/- attestor/attestorref01.Mul -/
noncomputable def cf18 : HF := ⟨
(.seq (.reg [q6] fun c r s K => K [U0] s)
 (.seq (.seq (.reg [q9] fun c r s K => c n44 [(r q0)] s fun v0 s => nott v0 fun v1 => K [v1] s)
 (.cond (.t q9) (.seq (.reg [q6] fun c r s K => K [U0] s)
 .ret)
 .skip))
 (.seq (.drw [q6] fun c r s K => (fun z m => dw3 m n4 n2 s (fun s q => c n45 [(r q0)] s q) fun v0 m s => binK .rem (r q1) v0 fun v1 => dw3 m n64 n38 s (fun s q => c n45 [(r q0)] s q) fun v2 m s => binK .rem (r q2) v2 fun v3 => binK .mul v1 v3 fun v4 => dw3 m (nat_lit 1024) (nat_lit 614) s (fun s q => c n45 [(r q0)] s q) fun v5 m s => binK .rem v4 v5 fun v6 => K [v6] s) s.next mk0)
 .ret))), [(.tmp q6)], [q0, q1, q2], [q7, q8, q10, q11, q12, q13, q14, q15, q16, q17, q18, q19, q20, q21]⟩
/- attestor/attestorref01.P -/
noncomputable def cf45 : HF := ⟨
(.seq (.reg [q2] fun c r s K => K [U0] s)
 (.seq (.seq (.reg [q3] fun c r s K => K [(r q0)] s)
 (.block n0 (.seq (.reg [q4] fun c r s K => binK .eql (r q3) I0 fun v0 => K [v0] s)
 (.cond (.t q4) (.seq (.reg [q2] fun c r s K => K [(u6 n97)] s)
 .ret)
 (.seq (.reg [q6] fun c r s K => binK .eql (r q3) I1 fun v0 => K [v0] s)
 (.cond (.t q6) (.seq (.reg [q2] fun c r s K => K [(u6 (nat_lit 257))] s)
 .ret)
 (.seq (.reg [q8] fun c r s K => binK .eql (r q3) I2 fun v0 => K [v0] s)
 (.cond (.t q8) (.seq (.reg [q2] fun c r s K => K [(u6 (nat_lit 12289))] s)
 .ret)
 (.seq (.reg [q10] fun c r s K => binK .eql (r q3) I3 fun v0 => K [v0] s)
 (.cond (.t q10) (.seq (.reg [q2] fun c r s K => (fun v0 => K [v0] s) (u6 (nat_lit 998244353)))
 .ret)
 .skip))))))))))
 (.seq (.reg [q2] fun c r s K => K [U0] s)
 .ret))), [(.tmp q2)], [q0], [q5, q7, q9, q11]⟩
/- attestor/attestorref01.Valid -/
noncomputable def cf44 : HF := ⟨
(.seq (.reg [q2] fun c r s K => K [ff] s)
 (.seq (.reg [q2] fun c r s K => binK .geq (r q0) I0 fun v0 => mt v0 (r q0) s fun v1 s => jt v0 (binK .leq v1 I3) s fun v2 s => pck v0 v2 ff fun v3 => K [v3] s)
 .ret)), [(.tmp q2)], [q0], [q3, q4, q5, q6, q7, q8]⟩
/- attestor/attestorref12.list -/
noncomputable def cf46 : HF := ⟨
(.seq (.reg [q3, q4] fun c r s K => bxx s (r q1) fun v0 s => K [v0, (.sc zn)] s)
 (.seq (.seq (.reg [q5] fun c r s K => K [(r q0)] s)
 (.block n0 (.seq (.reg [q6] fun c r s K => binK .eql (r q5) B1 fun v0 => K [v0] s)
 (.cond (.t q6) (.seq (.reg [q4] fun c r s K => fad n0 (r q3) fun v0 => ld s v0 fun v1 => K [v1] s)
 .ret)
 (.seq (.reg [q10] fun c r s K => binK .eql (r q5) B2 fun v0 => K [v0] s)
 (.cond (.t q10) (.seq (.reg [q4] fun c r s K => fad n1 (r q3) fun v0 => ld s v0 fun v1 => K [v1] s)
 .ret)
 (.seq (.reg [q14] fun c r s K => binK .eql (r q5) B3 fun v0 => K [v0] s)
 (.cond (.t q14) (.seq (.reg [q4] fun c r s K => fad n2 (r q3) fun v0 => ld s v0 fun v1 => K [v1] s)
 .ret)
 (.seq (.reg [q18] fun c r s K => binK .eql (r q5) B4 fun v0 => K [v0] s)
 (.cond (.t q18) (.seq (.reg [q4] fun c r s K => fad n3 (r q3) fun v0 => ld s v0 fun v1 => K [v1] s)
 .ret)
 (.seq (.reg [q22] fun c r s K => binK .eql (r q5) B5 fun v0 => K [v0] s)
 (.cond (.t q22) (.seq (.reg [q4] fun c r s K => fad n4 (r q3) fun v0 => ld s v0 fun v1 => K [v1] s)
 .ret)
 (.seq (.reg [q26] fun c r s K => binK .eql (r q5) B6 fun v0 => K [v0] s)
 (.cond (.t q26) (.seq (.reg [q4] fun c r s K => fad n5 (r q3) fun v0 => ld s v0 fun v1 => K [v1] s)
 .ret)
 (.seq (.reg [q30] fun c r s K => binK .eql (r q5) B7 fun v0 => K [v0] s)
 (.cond (.t q30) (.seq (.reg [q4] fun c r s K => fad n6 (r q3) fun v0 => ld s v0 fun v1 => K [v1] s)
 .ret)
 .skip))))))))))))))))
 (.seq (.reg [q4] fun c r s K => K [(.sc zn)] s)
 .ret))), [(.tmp q4)], [q0, q1], [q7, q8, q9, q11, q12, q13, q15, q16, q17, q19, q20, q21, q23, q24, q25, q27, q28, q29, q31, q32, q33]⟩
/- attestor/attestorref01.Add -/
noncomputable def cf17 : HF := ⟨
(.seq (.reg [q6] fun c r s K => K [U0] s)
 (.seq (.seq (.reg [q9] fun c r s K => c n44 [(r q0)] s fun v0 s => nott v0 fun v1 => K [v1] s)
 (.cond (.t q9) (.seq (.reg [q6] fun c r s K => K [U0] s)
 .ret)
 .skip))
 (.seq (.drw [q6] fun c r s K => (fun z m => dw3 m n4 n2 s (fun s q => c n45 [(r q0)] s q) fun v0 m s => binK .rem (r q1) v0 fun v1 => dw3 m n64 n38 s (fun s q => c n45 [(r q0)] s q) fun v2 m s => binK .rem (r q2) v2 fun v3 => binK .add v1 v3 fun v4 => dw3 m (nat_lit 1024) (nat_lit 614) s (fun s q => c n45 [(r q0)] s q) fun v5 m s => binK .rem v4 v5 fun v6 => K [v6] s) s.next mk0)
 .ret))), [(.tmp q6)], [q0, q1, q2], [q7, q8, q10, q11, q12, q13, q14, q15, q16, q17, q18, q19, q20, q21]⟩
/- attestor/attestorref12.Valid -/
noncomputable def cf22 : HF := ⟨
(.seq (.reg [q2] fun c r s K => K [ff] s)
 (.seq (.reg [q2] fun c r s K => c n44 [(r q0)] s fun v0 s => K [v0] s)
 .ret)), [(.tmp q2)], [q0], [q3, q4]⟩
/- attestor/mono.Value -/
noncomputable def cf15 : HF := ⟨
(.seq (.reg [q5, q6, q7] fun c r s K => bxx s (r q2) fun v0 s => K [v0, U0, I0] s)
 (.seq (.seq (.reg [q17] fun c r s K => c n32 [(r q0)] s fun v0 s => nott v0 fun v1 => K [v1] s)
 (.cond (.t q17) (.seq (.reg [q6, q7] fun c r s K => K [U0, I1] s)
 .ret)
 .skip))
 (.seq (.reg [q8] fun c r s K => K [U0] s)
 (.seq (.seq (.reg [q18, q19, q20] fun c r s K => lnS (r q1) fun v0 => K [(r q1), v0, I0] s)
 (.block n0 (.loop (.seq (.reg [q21] fun c r s K => binK .lss (r q20) (r q19) fun v0 => K [v0] s)
 (.seq (.cond (.t q21) .skip
 (.exit n0))
 (.seq (.block n1 (.seq (.reg [q10] fun c r s K => ixs n2 (r q18) (r q20) fun v0 => lN s n2 v0 fun v1 => alc s [zu, zn] fun v2 s => sto s n2 v2 v1 fun s => K [v2] s)
 (.seq (.reg [q11] fun c r s K => fad n0 (r q10) fun v0 => ld s v0 fun v1 => c n33 [(r q0), v1, U0] s fun v2 s => K [v2] s)
 (.seq (.seq (.reg [q29, q30, q31] fun c r s K => fad n1 (r q10) fun v0 => ld s v0 fun v1 => lnS v1 fun v2 => K [v1, v2, I0] s)
 (.block n2 (.loop (.seq (.reg [q32] fun c r s K => binK .lss (r q31) (r q30) fun v0 => K [v0] s)
 (.seq (.cond (.t q32) .skip
 (.exit n2))
 (.seq (.block n3 (.seq (.reg [q13] fun c r s K => ixs n2 (r q29) (r q31) fun v0 => lN s n2 v0 fun v1 => alc s [zb, zi] fun v2 s => sto s n2 v2 v1 fun s => K [v2] s)
 (.seq (.reg [q14] fun c r s K => fad n0 (r q13) fun v0 => ld s v0 fun v1 => lN s n7 (r q5) fun v2 => c n34 [v1, v2] s fun v3 s => K [v3] s)
 (.seq (.seq (.reg [q48] fun c r s K => fad n1 (r q13) fun v0 => ld s v0 fun v1 => binK .lss v1 I0 fun v2 => jf v2 (fad n1 (r q13)) s fun v3 s => jf v2 (ld s v3) s fun v4 s => mf v2 (r q14) s fun v5 s => jf v2 (lnS v5) s fun v6 s => jf v2 (binK .geq v4 v6) s fun v7 s => pck v2 tt v7 fun v8 => K [v8] s)
 (.cond (.t q48) (.seq (.reg [q6, q7] fun c r s K => K [U0, I2] s)
 .ret)
 .skip))
 (.reg [q11] fun c r s K => fad n1 (r q13) fun v0 => ld s v0 fun v1 => ixs n1 (r q14) v1 fun v2 => ld s v2 fun v3 => c n30 [(r q0), (r q11), v3] s fun v4 s => K [v4] s)))))
 (.reg [q31] fun c r s K => binK .add (r q31) I1 fun v0 => K [v0] s)))))))
 (.reg [q8] fun c r s K => c n33 [(r q0), (r q8), (r q11)] s fun v0 s => K [v0] s)))))
 (.reg [q20] fun c r s K => binK .add (r q20) I1 fun v0 => K [v0] s)))))))
 (.seq (.reg [q6, q7] fun c r s K => K [(r q8), I0] s)
 .ret))))), [(.tmp q6), (.tmp q7)], [q0, q1, q2], [q15, q16, q22, q23, q24, q25, q26, q27, q28, q33, q34, q35, q36, q37, q38, q39, q40, q41, q42, q43, q44, q45, q46, q47, q49, q50, q51, q52, q53, q54, q55, q56, q57, q58, q59, q60, q61, q62, q63]⟩
/- attestor/field.Mul -/
noncomputable def cf30 : HF := ⟨
(.seq (.reg [q6] fun c r s K => K [U0] s)
 (.seq (.reg [q7] fun c r s K => c n56 [(r q0)] s fun v0 s => K [v0] s)
 (.seq (.seq (.reg [q11] fun c r s K => binK .eql (r q7) U0 fun v0 => K [v0] s)
 (.cond (.t q11) (.seq (.reg [q6] fun c r s K => K [U0] s)
 .ret)
 .skip))
 (.seq (.drw [q6] fun c r s K => (fun z m => binK .rem (r q1) (r q7) fun v0 => binK .rem (r q2) (r q7) fun v1 => binK .mul v0 v1 fun v2 => binK .rem v2 (r q7) fun v3 => K [v3] s) s.next mk0)
 .ret)))), [(.tmp q6)], [q0, q1, q2], [q8, q9, q10, q12, q13, q14, q15, q16, q17, q18, q19, q20]⟩
/- attestor/field.P -/
noncomputable def cf56 : HF := ⟨
(.seq (.reg [q2] fun c r s K => K [U0] s)
 (.seq (.reg [q2] fun c r s K => c n74 [(r q0)] s fun v0 s => fld n0 n1 false v0 fun v1 => K [v1] s)
 .ret)), [(.tmp q2)], [q0], [q3, q4, q5]⟩
/- attestor/field.of -/
noncomputable def cf74 : HF := ⟨
(.seq (.reg [q2] fun c r s K => alc s [zu, zu, zi, zi, zn] fun v0 s => K [v0] s)
 (.seq (.seq (.reg [q5] fun c r s K => c n32 [(r q0)] s fun v0 s => nott v0 fun v1 => K [v1] s)
 (.cond (.t q5) (.seq (.reg [] fun c r s K => h_op3_build [zu, zu, zi, zi, zn] [] c r s fun v0 s => sto s n5 (r q2) v0 fun s => K [] s)
 .ret)
 .skip))
 (.seq (.reg [] fun c r s K => ixA n4 n5 (.sc (.ptr n0 n0)) (r q0) fun v0 => lN s n5 v0 fun v1 => sto s n5 (r q2) v1 fun s => K [] s)
 .ret))), [(.cellN n5 q2)], [q0], [q3, q4, q6, q7, q8, q9]⟩
/- attestor/mono.list -/
noncomputable def cf34 : HF := ⟨
(.seq (.reg [q3, q4] fun c r s K => bxx s (r q1) fun v0 s => K [v0, (.sc zn)] s)
 (.seq (.seq (.reg [q5] fun c r s K => K [(r q0)] s)
 (.block n0 (.seq (.reg [q6] fun c r s K => binK .eql (r q5) B1 fun v0 => K [v0] s)
 (.cond (.t q6) (.seq (.reg [q4] fun c r s K => fad n0 (r q3) fun v0 => ld s v0 fun v1 => K [v1] s)
 .ret)
 (.seq (.reg [q10] fun c r s K => binK .eql (r q5) B2 fun v0 => K [v0] s)
 (.cond (.t q10) (.seq (.reg [q4] fun c r s K => fad n1 (r q3) fun v0 => ld s v0 fun v1 => K [v1] s)
 .ret)
 (.seq (.reg [q14] fun c r s K => binK .eql (r q5) B3 fun v0 => K [v0] s)
 (.cond (.t q14) (.seq (.reg [q4] fun c r s K => fad n2 (r q3) fun v0 => ld s v0 fun v1 => K [v1] s)
 .ret)
 (.seq (.reg [q18] fun c r s K => binK .eql (r q5) B4 fun v0 => K [v0] s)
 (.cond (.t q18) (.seq (.reg [q4] fun c r s K => fad n3 (r q3) fun v0 => ld s v0 fun v1 => K [v1] s)
 .ret)
 (.seq (.reg [q22] fun c r s K => binK .eql (r q5) B5 fun v0 => K [v0] s)
 (.cond (.t q22) (.seq (.reg [q4] fun c r s K => fad n4 (r q3) fun v0 => ld s v0 fun v1 => K [v1] s)
 .ret)
 (.seq (.reg [q26] fun c r s K => binK .eql (r q5) B6 fun v0 => K [v0] s)
 (.cond (.t q26) (.seq (.reg [q4] fun c r s K => fad n5 (r q3) fun v0 => ld s v0 fun v1 => K [v1] s)
 .ret)
 (.seq (.reg [q30] fun c r s K => binK .eql (r q5) B7 fun v0 => K [v0] s)
 (.cond (.t q30) (.seq (.reg [q4] fun c r s K => fad n6 (r q3) fun v0 => ld s v0 fun v1 => K [v1] s)
 .ret)
 .skip))))))))))))))))
 (.seq (.reg [q4] fun c r s K => K [(.sc zn)] s)
 .ret))), [(.tmp q4)], [q0, q1], [q7, q8, q9, q11, q12, q13, q15, q16, q17, q19, q20, q21, q23, q24, q25, q27, q28, q29, q31, q32, q33]⟩
/- attestor/field.Add -/
noncomputable def cf33 : HF := ⟨
(.seq (.reg [q6] fun c r s K => K [U0] s)
 (.seq (.reg [q7] fun c r s K => c n56 [(r q0)] s fun v0 s => K [v0] s)
 (.seq (.seq (.reg [q12] fun c r s K => binK .eql (r q7) U0 fun v0 => K [v0] s)
 (.cond (.t q12) (.seq (.reg [q6] fun c r s K => K [U0] s)
 .ret)
 .skip))
 (.seq (.drw [q8] fun c r s K => (fun z m => binK .rem (r q1) (r q7) fun v0 => binK .rem (r q2) (r q7) fun v1 => binK .add v0 v1 fun v2 => K [v2] s) s.next mk0)
 (.seq (.seq (.reg [q22] fun c r s K => binK .geq (r q8) (r q7) fun v0 => K [v0] s)
 (.cond (.t q22) (.reg [q8] fun c r s K => binK .sub (r q8) (r q7) fun v0 => K [v0] s)
 .skip))
 (.seq (.reg [q6] fun c r s K => K [(r q8)] s)
 .ret)))))), [(.tmp q6)], [q0, q1, q2], [q9, q10, q11, q13, q14, q15, q16, q17, q18, q19, q20, q21, q23, q24, q25, q26]⟩
/- attestor/field.Valid -/
noncomputable def cf32 : HF := ⟨
(.seq (.reg [q2] fun c r s K => K [ff] s)
 (.seq (.reg [q2] fun c r s K => binK .geq (r q0) I0 fun v0 => mt v0 (r q0) s fun v1 s => jt v0 (binK .lss v1 I4) s fun v2 s => pck v0 v2 ff fun v3 => K [v3] s)
 .ret)), [(.tmp q2)], [q0], [q3, q4, q5, q6, q7, q8]⟩
/- attestor/attestorlaw12.live -/
noncomputable def cf9 : HF := ⟨
(.seq (.reg [q0] fun c r s K => K [ff] s)
 (.seq (.reg [q1, q2] fun c r s K => c n23 [] s fun v0 s => c n24 [] s fun v1 s => h_op3_buildS n2 n2 [zb, zi, zb, zi] [(n0, n2, (.c v0)), (n2, n2, (.c v1))] c r s fun v2 s => h_op3_build [zu, zn] [(n0, n1, (.c U3)), (n1, n1, (.c v2))] c r s fun v3 s => h_op3_build [zu, zn] [(n0, n1, (.c U5))] c r s fun v4 s => h_op3_buildS n2 n2 [zu, zn, zu, zn] [(n0, n2, (.c v3)), (n2, n2, (.c v4))] c r s fun v5 s => h_op3_buildS n1 n1 [zu] [(n0, n1, (.c U10))] c r s fun v6 s => h_op3_buildS n1 n1 [zu] [(n0, n1, (.c U4))] c r s fun v7 s => h_op3_build [zn, zn, zn, zn, zn, zn, zn] [(n0, n1, (.c v6)), (n1, n1, (.c v7))] c r s fun v8 s => c n15 [I0, v5, v8] s fun v9 s => xE n0 v9 c r s fun v10 s => xE n1 v9 c r s fun v11 s => K [v10, v11] s)
 (.seq (.reg [q3, q4] fun c r s K => c n23 [] s fun v0 s => h_op3_buildS n1 n2 [zb, zi] [(n0, n2, (.c v0))] c r s fun v1 s => h_op3_build [zu, zn] [(n0, n1, (.c U1)), (n1, n1, (.c v1))] c r s fun v2 s => h_op3_build [zu, zn] [(n0, n1, (.c U1))] c r s fun v3 s => h_op3_buildS n2 n2 [zu, zn, zu, zn] [(n0, n2, (.c v2)), (n2, n2, (.c v3))] c r s fun v4 s => c n23 [] s fun v5 s => h_op3_buildS n1 n2 [zb, zi] [(n0, n2, (.c v5))] c r s fun v6 s => h_op3_build [zu, zn] [(n0, n1, (.c U1)), (n1, n1, (.c v6))] c r s fun v7 s => h_op3_build [zu, zn] [(n0, n1, (.c (u6 n96)))] c r s fun v8 s => h_op3_buildS n2 n2 [zu, zn, zu, zn] [(n0, n2, (.c v7)), (n2, n2, (.c v8))] c r s fun v9 s => c n13 [I0, v4, v9] s fun v10 s => xE n0 v10 c r s fun v11 s => xE n1 v10 c r s fun v12 s => K [v11, v12] s)
 (.seq (.reg [q0] fun c r s K => binK .eql (r q1) U28 fun v0 => mt v0 (r q2) s fun v1 s => jt v0 (binK .eql v1 I0) s fun v2 s => pck v0 v2 ff fun v3 => mt v3 (r q4) s fun v4 s => jt v3 (binK .eql v4 I0) s fun v5 s => pck v3 v5 ff fun v6 => mt v6 (r q3) s fun v7 s => jn true v6 (fun j => h_op3_build [zu, zn] [(n0, n1, (.c (u6 n96)))] c r s j) s fun v8 s => jn true v6 (fun j => c n23 [] s j) s fun v9 s => jn true v6 (fun j => c n23 [] s j) s fun v10 s => jn true v6 (fun j => h_op3_buildS n2 n2 [zb, zi, zb, zi] [(n0, n2, (.c v9)), (n2, n2, (.c v10))] c r s j) s fun v11 s => jn true v6 (fun j => h_op3_build [zu, zn] [(n0, n1, (.c U1)), (n1, n1, (.c v11))] c r s j) s fun v12 s => jn true v6 (fun j => h_op3_buildS n2 n2 [zu, zn, zu, zn] [(n0, n2, (.c v8)), (n2, n2, (.c v12))] c r s j) s fun v13 s => jn true v6 (fun j => c n12 [v7, v13] s j) s fun v14 s => pck v6 v14 ff fun v15 => K [v15] s)
 .ret)))), [(.tmp q0)], [], [q6, q7, q8, q9, q10, q11, q12, q13, q14, q15, q5, q16, q17, q19, q20, q21, q22, q23, q24, q25, q26, q27, q28, q29, q18, q30, q31, q32, q33, q34, q35, q36, q37, q38, q39, q40, q41, q42, q43, q44, q45, q46, q47, q48, q49, q50, q51]⟩
/- attestor/attestorref12.Same -/
noncomputable def cf12 : HF := ⟨
(.seq (.reg [q4] fun c r s K => K [ff] s)
 (.seq (.seq (.reg [q10] fun c r s K => lnS (r q0) fun v0 => lnS (r q1) fun v1 => binK .neq v0 v1 fun v2 => K [v2] s)
 (.cond (.t q10) (.seq (.reg [q4] fun c r s K => K [ff] s)
 .ret)
 .skip))
 (.seq (.seq (.reg [q5] fun c r s K => K [I0] s)
 (.block n0 (.loop (.seq (.seq (.reg [q14] fun c r s K => lnS (r q0) fun v0 => binK .lss (r q5) v0 fun v1 => K [v1] s)
 (.cond (.t q14) .skip
 (.exit n0)))
 (.seq (.block n1 (.seq (.drw [q41] fun c r s K => (fun z m => ixs n2 (r q0) (r q5) fun v0 => fad n0 v0 fun v1 => dL z m n16 n15 s v1 fun v2 m s => ixs n2 (r q1) (r q5) fun v3 => fad n0 v3 fun v4 => dL z m (nat_lit 512) (nat_lit 480) s v4 fun v5 m s => binK .neq v2 v5 fun v6 => jnD false v6 (fun jj => jj (r q0) m s) m s fun v7 m s => jnD false v6 (fun jj => jj (r q5) m s) m s fun v8 m s => jnD false v6 (fun jj => ixs n2 v7 v8 fun v => jj v m s) m s fun v9 m s => jnD false v6 (fun jj => fad n1 v9 fun v => jj v m s) m s fun v10 m s => jnD false v6 (fun jj => dL z m (nat_lit 65536) (nat_lit 65535) s v10 jj) m s fun v11 m s => jnD false v6 (fun jj => jj (r q1) m s) m s fun v12 m s => jnD false v6 (fun jj => jj (r q5) m s) m s fun v13 m s => jnD false v6 (fun jj => ixs n2 v12 v13 fun v => jj v m s) m s fun v14 m s => jnD false v6 (fun jj => fad n1 v14 fun v => jj v m s) m s fun v15 m s => jnD false v6 (fun jj => dL z m (nat_lit 2097152) (nat_lit 1970175) s v15 jj) m s fun v16 m s => jnD false v6 (fun jj => dw3 m (nat_lit 4194304) (nat_lit 4194303) s (fun s q => c n28 [v11, v16] s q) jj) m s fun v17 m s => jnD false v6 (fun jj => nott v17 fun v => jj v m s) m s fun v18 m s => pck v6 tt v18 fun v19 => K [v19] s) s.next mk0)
 (.cond (.t q41) (.seq (.reg [q4] fun c r s K => K [ff] s)
 .ret)
 .skip)))
 (.reg [q5] fun c r s K => binK .add (r q5) I1 fun v0 => K [v0] s))))))
 (.seq (.reg [q4] fun c r s K => K [tt] s)
 .ret)))), [(.tmp q4)], [q0, q1], [q6, q7, q8, q9, q11, q12, q13, q17, q18, q19, q20, q21, q22, q23, q24, q25, q26, q27, q28, q29, q30, q31, q32, q33, q34, q35, q36, q37, q38, q39, q40, q15, q16]⟩
/- attestor/attestorref12.SameVars -/
noncomputable def cf28 : HF := ⟨
(.seq (.reg [q4] fun c r s K => K [ff] s)
 (.seq (.seq (.reg [q10] fun c r s K => lnS (r q0) fun v0 => lnS (r q1) fun v1 => binK .neq v0 v1 fun v2 => K [v2] s)
 (.cond (.t q10) (.seq (.reg [q4] fun c r s K => K [ff] s)
 .ret)
 .skip))
 (.seq (.seq (.reg [q5] fun c r s K => K [I0] s)
 (.block n0 (.loop (.seq (.seq (.reg [q14] fun c r s K => lnS (r q0) fun v0 => binK .lss (r q5) v0 fun v1 => K [v1] s)
 (.cond (.t q14) .skip
 (.exit n0)))
 (.seq (.block n1 (.seq (.drw [q25] fun c r s K => (fun z m => ixs n2 (r q0) (r q5) fun v0 => dN z m n8 n7 s n2 v0 fun v1 m s => ixs n2 (r q1) (r q5) fun v2 => dN z m n128 n112 s n2 v2 fun v3 m s => h_op4_eqv (.flat [n1, n1]) true (.c v1) (.c v3) c r s fun v4 s => K [v4] s) s.next mk0)
 (.cond (.t q25) (.seq (.reg [q4] fun c r s K => K [ff] s)
 .ret)
 .skip)))
 (.reg [q5] fun c r s K => binK .add (r q5) I1 fun v0 => K [v0] s))))))
 (.seq (.reg [q4] fun c r s K => K [tt] s)
 .ret)))), [(.tmp q4)], [q0, q1], [q6, q7, q8, q9, q11, q12, q13, q17, q18, q19, q20, q21, q22, q23, q24, q15, q16]⟩
/- attestor/mono.Mul -/
noncomputable def cf13 : HF := ⟨
(.seq (.reg [q3, q6, q7] fun c r s K => bxx s (r q0) fun v0 s => K [v0, (.sc zn), I0] s)
 (.seq (.reg [q8] fun c r s K => alc s [zn] fun v0 s => K [v0] s)
 (.seq (.reg [q9] fun c r s K => h_op4_makeFunc n29 [(.c (r q8)), (.c (r q3))] c r s fun v0 s => K [v0] s)
 (.seq (.seq (.reg [q15, q16, q17] fun c r s K => lnS (r q1) fun v0 => K [(r q1), v0, I0] s)
 (.block n0 (.loop (.seq (.reg [q18] fun c r s K => binK .lss (r q17) (r q16) fun v0 => K [v0] s)
 (.seq (.cond (.t q18) .skip
 (.exit n0))
 (.seq (.block n1 (.seq (.reg [q11] fun c r s K => ixs n2 (r q15) (r q17) fun v0 => lN s n2 v0 fun v1 => alc s [zu, zn] fun v2 s => sto s n2 v2 v1 fun s => K [v2] s)
 (.seq (.reg [q21, q22, q23] fun c r s K => lnS (r q2) fun v0 => K [(r q2), v0, I0] s)
 (.block n2 (.loop (.seq (.reg [q24] fun c r s K => binK .lss (r q23) (r q22) fun v0 => K [v0] s)
 (.seq (.cond (.t q24) .skip
 (.exit n2))
 (.seq (.block n3 (.seq (.reg [q13] fun c r s K => ixs n2 (r q21) (r q23) fun v0 => lN s n2 v0 fun v1 => alc s [zu, zn] fun v2 s => sto s n2 v2 v1 fun s => K [v2] s)
 (.reg [] fun c r s K => lN s n2 (r q11) fun v0 => lN s n2 (r q13) fun v1 => h_op4_callV (.c (r q9)) [(.c v0), (.c v1)] c r s fun v2 s => K [] s)))
 (.reg [q23] fun c r s K => binK .add (r q23) I1 fun v0 => K [v0] s)))))))))
 (.reg [q17] fun c r s K => binK .add (r q17) I1 fun v0 => K [v0] s)))))))
 (.seq (.reg [q6, q7] fun c r s K => ld s (r q3) fun v0 => ld s (r q8) fun v1 => c n16 [v0, v1] s fun v2 s => xE n0 v2 c r s fun v3 s => xE n1 v2 c r s fun v4 s => K [v3, v4] s)
 .ret))))), [(.tmp q6), (.tmp q7)], [q0, q1, q2], [q14, q19, q20, q25, q26, q27, q28, q29, q30, q31, q32, q33, q34, q35, q36, q37]⟩
/- attestor/mono.Normal -/
noncomputable def cf16 : HF := ⟨
(.seq (.reg [q4, q5] fun c r s K => K [(.sc zn), I0] s)
 (.seq (.seq (.reg [q16] fun c r s K => c n32 [(r q0)] s fun v0 s => nott v0 fun v1 => K [v1] s)
 (.cond (.t q16) (.seq (.reg [q4, q5] fun c r s K => K [(.sc zn), I1] s)
 .ret)
 .skip))
 (.seq (.reg [q6] fun c r s K => h_op5_mapNew  c r s fun v0 s => K [v0] s)
 (.seq (.reg [q7] fun c r s K => K [(.sc zn)] s)
 (.seq (.seq (.reg [q18, q19, q20] fun c r s K => lnS (r q1) fun v0 => K [(r q1), v0, I0] s)
 (.block n0 (.loop (.seq (.reg [q21] fun c r s K => binK .lss (r q20) (r q19) fun v0 => K [v0] s)
 (.seq (.cond (.t q21) .skip
 (.exit n0))
 (.seq (.block n1 (.seq (.reg [q9] fun c r s K => ixs n2 (r q18) (r q20) fun v0 => lN s n2 v0 fun v1 => alc s [zu, zn] fun v2 s => sto s n2 v2 v1 fun s => K [v2] s)
 (.seq (.reg [q10] fun c r s K => fad n1 (r q9) fun v0 => ld s v0 fun v1 => c n36 [v1] s fun v2 s => c n35 [v2, (.sc (.fn n37))] s fun v3 s => K [v3] s)
 (.seq (.reg [q11] fun c r s K => c n38 [(r q10)] s fun v0 s => K [v0] s)
 (.seq (.reg [q12, q13] fun c r s K => h_op5_mapGet n2 [zi] false true (.c (r q6)) (.c (r q11)) c r s fun v0 s => xE n0 v0 c r s fun v1 s => xE n1 v0 c r s fun v2 s => K [v1, v2] s)
 (.seq (.seq (.reg [q37] fun c r s K => nott (r q13) fun v0 => K [v0] s)
 (.cond (.t q37) (.seq (.reg [q12] fun c r s K => lnS (r q7) fun v0 => K [v0] s)
 (.seq (.reg [] fun c r s K => h_op5_mapSet n2 (.c (r q6)) (.c (r q11)) (.c (r q12)) c r s fun _ s => K [] s)
 (.reg [q7] fun c r s K => h_op3_build [zu, zn] [(n1, n1, (.c (r q10)))] c r s fun v0 s => h_op3_buildS n1 n2 [zu, zn] [(n0, n2, (.c v0))] c r s fun v1 s => xA n2 n32 (r q7) v1 c r s fun v2 s => K [v2] s)))
 .skip))
 (.drw [] fun c r s K => (fun z m => ixs n2 (r q7) (r q12) fun v0 => fad n0 v0 fun v1 => dL z m n128 n120 s v1 fun v2 m s => fad n0 (r q9) fun v3 => dL z m (nat_lit 512) (nat_lit 256) s v3 fun v4 m s => dw3 m (nat_lit 1024) (nat_lit 1020) s (fun s q => c n33 [(r q0), v2, v4] s q) fun v5 m s => ixs n2 (r q7) (r q12) fun v6 => fad n0 v6 fun v7 => dS z m (nat_lit 8192) (nat_lit 8191) s n1 v7 v5 fun _ m s => K [] s) s.next mk0)))))))
 (.reg [q20] fun c r s K => binK .add (r q20) I1 fun v0 => K [v0] s)))))))
 (.seq (.reg [q7] fun c r s K => c n39 [(r q7), (.sc (.fn n40))] s fun v0 s => K [v0] s)
 (.seq (.reg [] fun c r s K => c n41 [(r q7), (.sc (.fn n42))] s fun v0 s => K [] s)
 (.seq (.reg [q4, q5] fun c r s K => K [(r q7), I0] s)
 .ret)))))))), [(.tmp q4), (.tmp q5)], [q0, q1], [q14, q15, q17, q22, q23, q24, q25, q26, q27, q28, q29, q31, q32, q33, q30, q34, q35, q36, q38, q39, q40, q41, q42, q43, q44, q45, q46, q47, q48, q49, q50, q51, q52, q53, q54, q55, q56, q57, q58, q59, q60, q61, q62, q63, q64, q65, q66]⟩
/- attestor/mono.Normal$2 -/
noncomputable def cf42 : HF := ⟨
(.seq (.reg [q2, q3, q4] fun c r s K => bxx s (r q0) fun v0 s => bxx s (r q1) fun v1 s => K [v0, v1, I0] s)
 (.seq (.reg [q4] fun c r s K => fad n1 (r q2) fun v0 => ld s v0 fun v1 => fad n1 (r q3) fun v2 => ld s v2 fun v3 => c n43 [v1, v3] s fun v4 s => K [v4] s)
 .ret)), [(.tmp q4)], [q0, q1], [q5, q6, q7, q8, q9]⟩
/- attestor/mono.lists -/
noncomputable def cf43 : HF := ⟨
(.seq (.reg [q4] fun c r s K => K [I0] s)
 (.seq (.reg [q4] fun c r s K => lnS (r q0) fun v0 => lnS (r q1) fun v1 => c n63 [v0, v1] s fun v2 s => c n68 [(r q0), (r q1), (.sc (.fn n37))] s fun v3 s => h_op3_buildS n2 n1 [zi, zi] [(n0, n1, (.c v2)), (n1, n1, (.c v3))] c r s fun v4 s => c n61 [v4] s fun v5 s => K [v5] s)
 .ret)), [(.tmp q4)], [q0, q1], [q5, q6, q7, q8, q9, q10, q11, q12, q13, q14]⟩
/- cmp.Or[int] -/
noncomputable def cf61 : HF := ⟨
(.seq (.reg [q2] fun c r s K => K [I0] s)
 (.seq (.reg [q3] fun c r s K => K [I0] s)
 (.seq (.seq (.reg [q6, q7, q8] fun c r s K => lnS (r q0) fun v0 => K [(r q0), v0, I0] s)
 (.block n0 (.loop (.seq (.reg [q9] fun c r s K => binK .lss (r q8) (r q7) fun v0 => K [v0] s)
 (.seq (.cond (.t q9) .skip
 (.exit n0))
 (.seq (.block n1 (.seq (.reg [q5] fun c r s K => ixs n1 (r q6) (r q8) fun v0 => ld s v0 fun v1 => K [v1] s)
 (.seq (.reg [q14] fun c r s K => binK .neq (r q5) (r q3) fun v0 => K [v0] s)
 (.cond (.t q14) (.seq (.reg [q2] fun c r s K => K [(r q5)] s)
 .ret)
 .skip))))
 (.reg [q8] fun c r s K => binK .add (r q8) I1 fun v0 => K [v0] s)))))))
 (.seq (.reg [q2] fun c r s K => K [(r q3)] s)
 .ret)))), [(.tmp q2)], [q0], [q10, q11, q12, q13, q15, q16, q17]⟩
/- slices.CompareFunc[[]attestor/api.Var,[]attestor/api.Var,attestor/api.Var,attestor/api.Var] -/
noncomputable def cf68 : HF := ⟨
(.seq (.reg [q6] fun c r s K => K [I0] s)
 (.seq (.seq (.reg [q11, q12, q13] fun c r s K => lnS (r q0) fun v0 => K [(r q0), v0, I0] s)
 (.block n0 (.loop (.seq (.reg [q14] fun c r s K => binK .lss (r q13) (r q12) fun v0 => K [v0] s)
 (.seq (.cond (.t q14) .skip
 (.exit n0))
 (.seq (.block n1 (.seq (.reg [q8, q7] fun c r s K => ixs n2 (r q11) (r q13) fun v0 => lN s n2 v0 fun v1 => alc s [zb, zi] fun v2 s => sto s n2 v2 v1 fun s => K [v2, (r q13)] s)
 (.seq (.seq (.reg [q21] fun c r s K => lnS (r q1) fun v0 => binK .geq (r q7) v0 fun v1 => K [v1] s)
 (.cond (.t q21) (.seq (.reg [q6] fun c r s K => K [I1] s)
 .ret)
 .skip))
 (.seq (.reg [q9] fun c r s K => ixs n2 (r q1) (r q7) fun v0 => lN s n2 v0 fun v1 => alc s [zb, zi] fun v2 s => sto s n2 v2 v1 fun s => K [v2] s)
 (.seq (.reg [q10] fun c r s K => lN s n2 (r q8) fun v0 => lN s n2 (r q9) fun v1 => h_op4_callV (.c (r q2)) [(.c v0), (.c v1)] c r s fun v2 s => K [v2] s)
 (.seq (.reg [q31] fun c r s K => binK .neq (r q10) I0 fun v0 => K [v0] s)
 (.cond (.t q31) (.seq (.reg [q6] fun c r s K => K [(r q10)] s)
 .ret)
 .skip)))))))
 (.reg [q13] fun c r s K => binK .add (r q13) I1 fun v0 => K [v0] s)))))))
 (.seq (.seq (.reg [q38] fun c r s K => lnS (r q0) fun v0 => lnS (r q1) fun v1 => binK .lss v0 v1 fun v2 => K [v2] s)
 (.cond (.t q38) (.seq (.reg [q6] fun c r s K => (fun v0 => K [v0] s) (.sc (.int .i64 (.negSucc n0))))
 .ret)
 .skip))
 (.seq (.reg [q6] fun c r s K => K [I0] s)
 .ret)))), [(.tmp q6)], [q0, q1, q2], [q15, q16, q17, q18, q19, q20, q22, q23, q24, q25, q26, q27, q28, q29, q30, q32, q33, q34, q35, q36, q37]⟩
/- cmp.Compare[int] -/
noncomputable def cf63 : HF := ⟨
(.seq (.reg [q4] fun c r s K => K [I0] s)
 (.seq (.reg [q5] fun c r s K => c n78 [(r q0)] s fun v0 s => K [v0] s)
 (.seq (.reg [q6] fun c r s K => c n78 [(r q1)] s fun v0 s => K [v0] s)
 (.seq (.seq (.reg [q11] fun c r s K => K [(r q5)] s)
 (.cond (.t q11) (.seq (.seq (.reg [q12] fun c r s K => K [(r q6)] s)
 (.cond (.t q12) (.seq (.reg [q4] fun c r s K => K [I0] s)
 .ret)
 .skip))
 (.seq (.reg [q4] fun c r s K => (fun v0 => K [v0] s) (.sc (.int .i64 (.negSucc n0))))
 .ret))
 .skip))
 (.seq (.seq (.reg [q13] fun c r s K => K [(r q6)] s)
 (.cond (.t q13) (.seq (.reg [q4] fun c r s K => K [I1] s)
 .ret)
 .skip))
 (.seq (.seq (.reg [q16] fun c r s K => binK .lss (r q0) (r q1) fun v0 => K [v0] s)
 (.cond (.t q16) (.seq (.reg [q4] fun c r s K => (fun v0 => K [v0] s) (.sc (.int .i64 (.negSucc n0))))
 .ret)
 .skip))
 (.seq (.seq (.reg [q19] fun c r s K => binK .gtr (r q0) (r q1) fun v0 => K [v0] s)
 (.cond (.t q19) (.seq (.reg [q4] fun c r s K => K [I1] s)
 .ret)
 .skip))
 (.seq (.reg [q4] fun c r s K => K [I0] s)
 .ret)))))))), [(.tmp q4)], [q0, q1], [q7, q8, q9, q10, q14, q15, q17, q18]⟩
/- cmp.isNaN[int] -/
noncomputable def cf78 : HF := ⟨
(.seq (.reg [q2] fun c r s K => K [ff] s)
 (.seq (.reg [q2] fun c r s K => binK .neq (r q0) (r q0) fun v0 => K [v0] s)
 .ret)), [(.tmp q2)], [q0], [q3, q4, q5]⟩
/- slices.SortFunc[[]attestor/api.Mono,attestor/api.Mono] -/
noncomputable def cf41 : HF := ⟨
(.seq (.reg [q4] fun c r s K => lnS (r q0) fun v0 => K [v0] s)
 (.reg [] fun c r s K => cnv .u64 (r q4) fun v0 => c n67 [v0] s fun v1 s => c n66 [(r q0), I0, (r q4), v1, (r q1)] s fun v2 s => K [] s)), [], [q0, q1], [q5, q6, q7, q8, q9, q10, q11, q12, q13]⟩
/- slices.pdqsortCmpFunc[attestor/api.Mono] -/
noncomputable def cf66 : HF := ⟨
(.seq (.reg [q10] fun c r s K => K [tt] s)
 (.seq (.reg [q11] fun c r s K => K [tt] s)
 (.block n0 (.loop (.block n1 (.seq (.reg [q12] fun c r s K => binK .sub (r q2) (r q1) fun v0 => K [v0] s)
 (.seq (.seq (.reg [q25] fun c r s K => binK .leq (r q12) I12 fun v0 => K [v0] s)
 (.cond (.t q25) (.seq (.reg [] fun c r s K => c n80 [(r q0), (r q1), (r q2), (r q4)] s fun v0 s => K [] s)
 .ret)
 .skip))
 (.seq (.seq (.reg [q32] fun c r s K => binK .eql (r q3) I0 fun v0 => K [v0] s)
 (.cond (.t q32) (.seq (.reg [] fun c r s K => c n81 [(r q0), (r q1), (r q2), (r q4)] s fun v0 s => K [] s)
 .ret)
 .skip))
 (.seq (.seq (.reg [q39] fun c r s K => nott (r q10) fun v0 => K [v0] s)
 (.cond (.t q39) (.seq (.reg [] fun c r s K => c n82 [(r q0), (r q1), (r q2), (r q4)] s fun v0 s => K [] s)
 (.reg [q3] fun c r s K => binK .sub (r q3) I1 fun v0 => K [v0] s))
 .skip))
 (.seq (.reg [q13, q14] fun c r s K => c n83 [(r q0), (r q1), (r q2), (r q4)] s fun v0 s => xE n0 v0 c r s fun v1 s => xE n1 v0 c r s fun v2 s => K [v1, v2] s)
 (.seq (.seq (.reg [q56] fun c r s K => binK .eql (r q14) I2 fun v0 => K [v0] s)
 (.cond (.t q56) (.seq (.reg [] fun c r s K => c n84 [(r q0), (r q1), (r q2), (r q4)] s fun v0 s => K [] s)
 (.seq (.reg [q13] fun c r s K => binK .sub (r q2) I1 fun v0 => binK .sub (r q13) (r q1) fun v1 => binK .sub v0 v1 fun v2 => K [v2] s)
 (.reg [q14] fun c r s K => K [I1] s)))
 .skip))
 (.seq (.seq (.reg [q75] fun c r s K => mt (r q10) (r q11) s fun v0 s => pck (r q10) v0 ff fun v1 => mt v1 (r q14) s fun v2 s => jt v1 (binK .eql v2 I1) s fun v3 s => pck v1 v3 ff fun v4 => K [v4] s)
 (.cond (.t q75) (.seq (.reg [q80] fun c r s K => c n85 [(r q0), (r q1), (r q2), (r q4)] s fun v0 s => K [v0] s)
 (.cond (.t q80) .ret
 .skip))
 .skip))
 (.seq (.seq (.drw [q97] fun c r s K => (fun z m => binK .gtr (r q1) I0 fun v0 => jnD true v0 (fun jj => jj (r q4) m s) m s fun v1 m s => jnD true v0 (fun jj => jj (r q0) m s) m s fun v2 m s => jnD true v0 (fun jj => jj (r q1) m s) m s fun v3 m s => jnD true v0 (fun jj => binK .sub v3 I1 fun v => jj v m s) m s fun v4 m s => jnD true v0 (fun jj => ixs n2 v2 v4 fun v => jj v m s) m s fun v5 m s => jnD true v0 (fun jj => dN z m (nat_lit 256) (nat_lit 247) s n2 v5 jj) m s fun v6 m s => jnD true v0 (fun jj => jj (r q0) m s) m s fun v7 m s => jnD true v0 (fun jj => jj (r q13) m s) m s fun v8 m s => jnD true v0 (fun jj => ixs n2 v7 v8 fun v => jj v m s) m s fun v9 m s => jnD true v0 (fun jj => dN z m (nat_lit 4096) (nat_lit 3591) s n2 v9 jj) m s fun v10 m s => jnD true v0 (fun jj => dw3 m (nat_lit 8192) (nat_lit 8191) s (fun s q => h_op4_callV (.c v1) [(.c v6), (.c v10)] c r s q) jj) m s fun v11 m s => jnD true v0 (fun jj => binK .lss v11 I0 fun v => jj v m s) m s fun v12 m s => jnD true v0 (fun jj => nott v12 fun v => jj v m s) m s fun v13 m s => pck v0 v13 ff fun v14 => K [v14] s) s.next mk0)
 (.cond (.t q97) (.seq (.reg [q15] fun c r s K => c n86 [(r q0), (r q1), (r q2), (r q13), (r q4)] s fun v0 s => K [v0] s)
 (.seq (.reg [q1] fun c r s K => K [(r q15)] s)
 (.exit n1)))
 .skip))
 (.seq (.reg [q16, q17] fun c r s K => c n87 [(r q0), (r q1), (r q2), (r q13), (r q4)] s fun v0 s => xE n0 v0 c r s fun v1 s => xE n1 v0 c r s fun v2 s => K [v1, v2] s)
 (.seq (.reg [q11] fun c r s K => K [(r q17)] s)
 (.seq (.reg [q18, q19] fun c r s K => binK .sub (r q16) (r q1) fun v0 => binK .sub (r q2) (r q16) fun v1 => K [v0, v1] s)
 (.seq (.reg [q20] fun c r s K => binK .quo (r q12) I8 fun v0 => K [v0] s)
 (.seq (.reg [q125] fun c r s K => binK .lss (r q18) (r q19) fun v0 => K [v0] s)
 (.cond (.t q125) (.seq (.reg [q10] fun c r s K => binK .geq (r q18) (r q20) fun v0 => K [v0] s)
 (.seq (.reg [] fun c r s K => c n66 [(r q0), (r q1), (r q16), (r q3), (r q4)] s fun v0 s => K [] s)
 (.reg [q1] fun c r s K => binK .add (r q16) I1 fun v0 => K [v0] s)))
 (.seq (.reg [q10] fun c r s K => binK .geq (r q19) (r q20) fun v0 => K [v0] s)
 (.seq (.reg [] fun c r s K => binK .add (r q16) I1 fun v0 => c n66 [(r q0), v0, (r q2), (r q3), (r q4)] s fun v1 s => K [] s)
 (.reg [q2] fun c r s K => K [(r q16)] s)))))))))))))))))))))), [], [q0, q1, q2, q3, q4], [q21, q22, q23, q24, q26, q27, q28, q29, q30, q31, q33, q34, q35, q36, q37, q38, q40, q41, q42, q43, q44, q45, q46, q48, q49, q50, q51, q52, q47, q53, q54, q55, q57, q58, q59, q60, q61, q62, q63, q64, q65, q66, q67, q68, q69, q70, q71, q72, q73, q74, q76, q77, q78, q79, q81, q82, q83, q84, q85, q86, q87, q88, q89, q90, q91, q92, q93, q94, q95, q96, q98, q99, q100, q101, q102, q103, q104, q106, q107, q108, q109, q110, q111, q105, q112, q113, q114, q115, q116, q117, q118, q119, q120, q121, q122, q123, q124, q126, q127, q128, q129, q130, q131, q132, q133, q134, q135, q136, q137, q138, q139, q140, q141, q142, q143, q144, q145, q146, q147]⟩
/- slices.partitionCmpFunc[attestor/api.Mono] -/
noncomputable def cf87 : HF := ⟨
(.seq (.reg [q10, q11] fun c r s K => K [I0, ff] s)
 (.seq (.drw [] fun c r s K => (fun z m => ixs n2 (r q0) (r q3) fun v0 => dN z m n128 n112 s n2 v0 fun v1 m s => ixs n2 (r q0) (r q1) fun v2 => dN z m (nat_lit 2048) (nat_lit 1792) s n2 v2 fun v3 m s => ixs n2 (r q0) (r q1) fun v4 => dS z m (nat_lit 8192) (nat_lit 8179) s n2 v4 v1 fun _ m s => ixs n2 (r q0) (r q3) fun v6 => dS z m (nat_lit 32768) (nat_lit 32767) s n2 v6 v3 fun _ m s => K [] s) s.next mk0)
 (.seq (.reg [q12, q13] fun c r s K => binK .add (r q1) I1 fun v0 => binK .sub (r q2) I1 fun v1 => K [v0, v1] s)
 (.seq (.block n0 (.loop (.seq (.seq (.drw [q47] fun c r s K => (fun z m => binK .leq (r q12) (r q13) fun v0 => jnD true v0 (fun jj => jj (r q4) m s) m s fun v1 m s => jnD true v0 (fun jj => jj (r q0) m s) m s fun v2 m s => jnD true v0 (fun jj => jj (r q12) m s) m s fun v3 m s => jnD true v0 (fun jj => ixs n2 v2 v3 fun v => jj v m s) m s fun v4 m s => jnD true v0 (fun jj => dN z m (nat_lit 256) (nat_lit 239) s n2 v4 jj) m s fun v5 m s => jnD true v0 (fun jj => jj (r q0) m s) m s fun v6 m s => jnD true v0 (fun jj => jj (r q1) m s) m s fun v7 m s => jnD true v0 (fun jj => ixs n2 v6 v7 fun v => jj v m s) m s fun v8 m s => jnD true v0 (fun jj => dN z m (nat_lit 4096) (nat_lit 3599) s n2 v8 jj) m s fun v9 m s => jnD true v0 (fun jj => dw3 m (nat_lit 8192) (nat_lit 8191) s (fun s q => h_op4_callV (.c v1) [(.c v5), (.c v9)] c r s q) jj) m s fun v10 m s => jnD true v0 (fun jj => binK .lss v10 I0 fun v => jj v m s) m s fun v11 m s => pck v0 v11 ff fun v12 => K [v12] s) s.next mk0)
 (.cond (.t q47) .skip
 (.exit n0)))
 (.block n1 (.reg [q12] fun c r s K => binK .add (r q12) I1 fun v0 => K [v0] s)))))
 (.seq (.block n2 (.loop (.seq (.seq (.drw [q66] fun c r s K => (fun z m => binK .leq (r q12) (r q13) fun v0 => jnD true v0 (fun jj => jj (r q4) m s) m s fun v1 m s => jnD true v0 (fun jj => jj (r q0) m s) m s fun v2 m s => jnD true v0 (fun jj => jj (r q13) m s) m s fun v3 m s => jnD true v0 (fun jj => ixs n2 v2 v3 fun v => jj v m s) m s fun v4 m s => jnD true v0 (fun jj => dN z m (nat_lit 256) (nat_lit 239) s n2 v4 jj) m s fun v5 m s => jnD true v0 (fun jj => jj (r q0) m s) m s fun v6 m s => jnD true v0 (fun jj => jj (r q1) m s) m s fun v7 m s => jnD true v0 (fun jj => ixs n2 v6 v7 fun v => jj v m s) m s fun v8 m s => jnD true v0 (fun jj => dN z m (nat_lit 4096) (nat_lit 3599) s n2 v8 jj) m s fun v9 m s => jnD true v0 (fun jj => dw3 m (nat_lit 8192) (nat_lit 8191) s (fun s q => h_op4_callV (.c v1) [(.c v5), (.c v9)] c r s q) jj) m s fun v10 m s => jnD true v0 (fun jj => binK .lss v10 I0 fun v => jj v m s) m s fun v11 m s => jnD true v0 (fun jj => nott v11 fun v => jj v m s) m s fun v12 m s => pck v0 v12 ff fun v13 => K [v13] s) s.next mk0)
 (.cond (.t q66) .skip
 (.exit n2)))
 (.block n3 (.reg [q13] fun c r s K => binK .sub (r q13) I1 fun v0 => K [v0] s)))))
 (.seq (.seq (.reg [q71] fun c r s K => binK .gtr (r q12) (r q13) fun v0 => K [v0] s)
 (.cond (.t q71) (.seq (.drw [] fun c r s K => (fun z m => ixs n2 (r q0) (r q1) fun v0 => dN z m n128 n112 s n2 v0 fun v1 m s => ixs n2 (r q0) (r q13) fun v2 => dN z m (nat_lit 2048) (nat_lit 1792) s n2 v2 fun v3 m s => ixs n2 (r q0) (r q13) fun v4 => dS z m (nat_lit 8192) (nat_lit 8179) s n2 v4 v1 fun _ m s => ixs n2 (r q0) (r q1) fun v6 => dS z m (nat_lit 32768) (nat_lit 32767) s n2 v6 v3 fun _ m s => K [] s) s.next mk0)
 (.seq (.reg [q10, q11] fun c r s K => K [(r q13), tt] s)
 .ret))
 .skip))
 (.seq (.drw [] fun c r s K => (fun z m => ixs n2 (r q0) (r q13) fun v0 => dN z m n128 n112 s n2 v0 fun v1 m s => ixs n2 (r q0) (r q12) fun v2 => dN z m (nat_lit 2048) (nat_lit 1792) s n2 v2 fun v3 m s => ixs n2 (r q0) (r q12) fun v4 => dS z m (nat_lit 8192) (nat_lit 8179) s n2 v4 v1 fun _ m s => ixs n2 (r q0) (r q13) fun v6 => dS z m (nat_lit 32768) (nat_lit 32767) s n2 v6 v3 fun _ m s => K [] s) s.next mk0)
 (.seq (.reg [q12] fun c r s K => binK .add (r q12) I1 fun v0 => K [v0] s)
 (.seq (.reg [q13] fun c r s K => binK .sub (r q13) I1 fun v0 => K [v0] s)
 (.seq (.block n4 (.loop (.block n5 (.seq (.block n6 (.loop (.seq (.seq (.drw [q120] fun c r s K => (fun z m => binK .leq (r q12) (r q13) fun v0 => jnD true v0 (fun jj => jj (r q4) m s) m s fun v1 m s => jnD true v0 (fun jj => jj (r q0) m s) m s fun v2 m s => jnD true v0 (fun jj => jj (r q12) m s) m s fun v3 m s => jnD true v0 (fun jj => ixs n2 v2 v3 fun v => jj v m s) m s fun v4 m s => jnD true v0 (fun jj => dN z m (nat_lit 256) (nat_lit 239) s n2 v4 jj) m s fun v5 m s => jnD true v0 (fun jj => jj (r q0) m s) m s fun v6 m s => jnD true v0 (fun jj => jj (r q1) m s) m s fun v7 m s => jnD true v0 (fun jj => ixs n2 v6 v7 fun v => jj v m s) m s fun v8 m s => jnD true v0 (fun jj => dN z m (nat_lit 4096) (nat_lit 3599) s n2 v8 jj) m s fun v9 m s => jnD true v0 (fun jj => dw3 m (nat_lit 8192) (nat_lit 8191) s (fun s q => h_op4_callV (.c v1) [(.c v5), (.c v9)] c r s q) jj) m s fun v10 m s => jnD true v0 (fun jj => binK .lss v10 I0 fun v => jj v m s) m s fun v11 m s => pck v0 v11 ff fun v12 => K [v12] s) s.next mk0)
 (.cond (.t q120) .skip
 (.exit n6)))
 (.block n7 (.reg [q12] fun c r s K => binK .add (r q12) I1 fun v0 => K [v0] s)))))
 (.seq (.block n8 (.loop (.seq (.seq (.drw [q139] fun c r s K => (fun z m => binK .leq (r q12) (r q13) fun v0 => jnD true v0 (fun jj => jj (r q4) m s) m s fun v1 m s => jnD true v0 (fun jj => jj (r q0) m s) m s fun v2 m s => jnD true v0 (fun jj => jj (r q13) m s) m s fun v3 m s => jnD true v0 (fun jj => ixs n2 v2 v3 fun v => jj v m s) m s fun v4 m s => jnD true v0 (fun jj => dN z m (nat_lit 256) (nat_lit 239) s n2 v4 jj) m s fun v5 m s => jnD true v0 (fun jj => jj (r q0) m s) m s fun v6 m s => jnD true v0 (fun jj => jj (r q1) m s) m s fun v7 m s => jnD true v0 (fun jj => ixs n2 v6 v7 fun v => jj v m s) m s fun v8 m s => jnD true v0 (fun jj => dN z m (nat_lit 4096) (nat_lit 3599) s n2 v8 jj) m s fun v9 m s => jnD true v0 (fun jj => dw3 m (nat_lit 8192) (nat_lit 8191) s (fun s q => h_op4_callV (.c v1) [(.c v5), (.c v9)] c r s q) jj) m s fun v10 m s => jnD true v0 (fun jj => binK .lss v10 I0 fun v => jj v m s) m s fun v11 m s => jnD true v0 (fun jj => nott v11 fun v => jj v m s) m s fun v12 m s => pck v0 v12 ff fun v13 => K [v13] s) s.next mk0)
 (.cond (.t q139) .skip
 (.exit n8)))
 (.block n9 (.reg [q13] fun c r s K => binK .sub (r q13) I1 fun v0 => K [v0] s)))))
 (.seq (.seq (.reg [q144] fun c r s K => binK .gtr (r q12) (r q13) fun v0 => K [v0] s)
 (.cond (.t q144) (.exit n4)
 .skip))
 (.seq (.drw [] fun c r s K => (fun z m => ixs n2 (r q0) (r q13) fun v0 => dN z m n128 n112 s n2 v0 fun v1 m s => ixs n2 (r q0) (r q12) fun v2 => dN z m (nat_lit 2048) (nat_lit 1792) s n2 v2 fun v3 m s => ixs n2 (r q0) (r q12) fun v4 => dS z m (nat_lit 8192) (nat_lit 8179) s n2 v4 v1 fun _ m s => ixs n2 (r q0) (r q13) fun v6 => dS z m (nat_lit 32768) (nat_lit 32767) s n2 v6 v3 fun _ m s => K [] s) s.next mk0)
 (.seq (.reg [q12] fun c r s K => binK .add (r q12) I1 fun v0 => K [v0] s)
 (.reg [q13] fun c r s K => binK .sub (r q13) I1 fun v0 => K [v0] s)))))))))
 (.seq (.drw [] fun c r s K => (fun z m => ixs n2 (r q0) (r q1) fun v0 => dN z m n128 n112 s n2 v0 fun v1 m s => ixs n2 (r q0) (r q13) fun v2 => dN z m (nat_lit 2048) (nat_lit 1792) s n2 v2 fun v3 m s => ixs n2 (r q0) (r q13) fun v4 => dS z m (nat_lit 8192) (nat_lit 8179) s n2 v4 v1 fun _ m s => ixs n2 (r q0) (r q1) fun v6 => dS z m (nat_lit 32768) (nat_lit 32767) s n2 v6 v3 fun _ m s => K [] s) s.next mk0)
 (.seq (.reg [q10, q11] fun c r s K => K [(r q13), ff] s)
 .ret)))))))))))), [(.tmp q10), (.tmp q11)], [q0, q1, q2, q3, q4], [q14, q15, q16, q17, q18, q19, q20, q21, q22, q23, q24, q25, q26, q27, q28, q29, q30, q31, q32, q33, q34, q35, q36, q37, q38, q39, q40, q41, q42, q43, q44, q45, q46, q48, q49, q50, q51, q52, q53, q54, q55, q56, q57, q58, q59, q60, q61, q62, q63, q64, q65, q67, q68, q69, q70, q72, q73, q74, q75, q76, q77, q78, q79, q80, q81, q82, q83, q84, q85, q86, q87, q88, q89, q90, q91, q92, q93, q94, q95, q96, q97, q98, q99, q100, q101, q102, q103, q104, q105, q106, q107, q108, q109, q110, q111, q112, q113, q114, q115, q116, q117, q118, q119, q121, q122, q123, q124, q125, q126, q127, q128, q129, q130, q131, q132, q133, q134, q135, q136, q137, q138, q140, q141, q142, q143, q145, q146, q147, q148, q149, q150, q151, q152, q153, q154, q155, q156, q157, q158, q159, q160, q161, q162, q163, q164, q165, q166, q167, q168, q169, q170, q171, q172, q173, q174, q175, q176, q177]⟩
/- slices.partitionEqualCmpFunc[attestor/api.Mono] -/
noncomputable def cf86 : HF := ⟨
(.seq (.reg [q10] fun c r s K => K [I0] s)
 (.seq (.drw [] fun c r s K => (fun z m => ixs n2 (r q0) (r q3) fun v0 => dN z m n128 n112 s n2 v0 fun v1 m s => ixs n2 (r q0) (r q1) fun v2 => dN z m (nat_lit 2048) (nat_lit 1792) s n2 v2 fun v3 m s => ixs n2 (r q0) (r q1) fun v4 => dS z m (nat_lit 8192) (nat_lit 8179) s n2 v4 v1 fun _ m s => ixs n2 (r q0) (r q3) fun v6 => dS z m (nat_lit 32768) (nat_lit 32767) s n2 v6 v3 fun _ m s => K [] s) s.next mk0)
 (.seq (.reg [q11, q12] fun c r s K => binK .add (r q1) I1 fun v0 => binK .sub (r q2) I1 fun v1 => K [v0, v1] s)
 (.seq (.block n0 (.loop (.block n1 (.seq (.block n2 (.loop (.seq (.seq (.drw [q47] fun c r s K => (fun z m => binK .leq (r q11) (r q12) fun v0 => jnD true v0 (fun jj => jj (r q4) m s) m s fun v1 m s => jnD true v0 (fun jj => jj (r q0) m s) m s fun v2 m s => jnD true v0 (fun jj => jj (r q1) m s) m s fun v3 m s => jnD true v0 (fun jj => ixs n2 v2 v3 fun v => jj v m s) m s fun v4 m s => jnD true v0 (fun jj => dN z m (nat_lit 256) (nat_lit 239) s n2 v4 jj) m s fun v5 m s => jnD true v0 (fun jj => jj (r q0) m s) m s fun v6 m s => jnD true v0 (fun jj => jj (r q11) m s) m s fun v7 m s => jnD true v0 (fun jj => ixs n2 v6 v7 fun v => jj v m s) m s fun v8 m s => jnD true v0 (fun jj => dN z m (nat_lit 4096) (nat_lit 3599) s n2 v8 jj) m s fun v9 m s => jnD true v0 (fun jj => dw3 m (nat_lit 8192) (nat_lit 8191) s (fun s q => h_op4_callV (.c v1) [(.c v5), (.c v9)] c r s q) jj) m s fun v10 m s => jnD true v0 (fun jj => binK .lss v10 I0 fun v => jj v m s) m s fun v11 m s => jnD true v0 (fun jj => nott v11 fun v => jj v m s) m s fun v12 m s => pck v0 v12 ff fun v13 => K [v13] s) s.next mk0)
 (.cond (.t q47) .skip
 (.exit n2)))
 (.block n3 (.reg [q11] fun c r s K => binK .add (r q11) I1 fun v0 => K [v0] s)))))
 (.seq (.block n4 (.loop (.seq (.seq (.drw [q65] fun c r s K => (fun z m => binK .leq (r q11) (r q12) fun v0 => jnD true v0 (fun jj => jj (r q4) m s) m s fun v1 m s => jnD true v0 (fun jj => jj (r q0) m s) m s fun v2 m s => jnD true v0 (fun jj => jj (r q1) m s) m s fun v3 m s => jnD true v0 (fun jj => ixs n2 v2 v3 fun v => jj v m s) m s fun v4 m s => jnD true v0 (fun jj => dN z m (nat_lit 256) (nat_lit 239) s n2 v4 jj) m s fun v5 m s => jnD true v0 (fun jj => jj (r q0) m s) m s fun v6 m s => jnD true v0 (fun jj => jj (r q12) m s) m s fun v7 m s => jnD true v0 (fun jj => ixs n2 v6 v7 fun v => jj v m s) m s fun v8 m s => jnD true v0 (fun jj => dN z m (nat_lit 4096) (nat_lit 3599) s n2 v8 jj) m s fun v9 m s => jnD true v0 (fun jj => dw3 m (nat_lit 8192) (nat_lit 8191) s (fun s q => h_op4_callV (.c v1) [(.c v5), (.c v9)] c r s q) jj) m s fun v10 m s => jnD true v0 (fun jj => binK .lss v10 I0 fun v => jj v m s) m s fun v11 m s => pck v0 v11 ff fun v12 => K [v12] s) s.next mk0)
 (.cond (.t q65) .skip
 (.exit n4)))
 (.block n5 (.reg [q12] fun c r s K => binK .sub (r q12) I1 fun v0 => K [v0] s)))))
 (.seq (.seq (.reg [q70] fun c r s K => binK .gtr (r q11) (r q12) fun v0 => K [v0] s)
 (.cond (.t q70) (.exit n0)
 .skip))
 (.seq (.drw [] fun c r s K => (fun z m => ixs n2 (r q0) (r q12) fun v0 => dN z m n128 n112 s n2 v0 fun v1 m s => ixs n2 (r q0) (r q11) fun v2 => dN z m (nat_lit 2048) (nat_lit 1792) s n2 v2 fun v3 m s => ixs n2 (r q0) (r q11) fun v4 => dS z m (nat_lit 8192) (nat_lit 8179) s n2 v4 v1 fun _ m s => ixs n2 (r q0) (r q12) fun v6 => dS z m (nat_lit 32768) (nat_lit 32767) s n2 v6 v3 fun _ m s => K [] s) s.next mk0)
 (.seq (.reg [q11] fun c r s K => binK .add (r q11) I1 fun v0 => K [v0] s)
 (.reg [q12] fun c r s K => binK .sub (r q12) I1 fun v0 => K [v0] s)))))))))
 (.seq (.reg [q10] fun c r s K => K [(r q11)] s)
 .ret))))), [(.tmp q10)], [q0, q1, q2, q3, q4], [q13, q14, q15, q16, q17, q18, q19, q20, q21, q22, q23, q24, q25, q26, q27, q28, q29, q30, q31, q32, q33, q34, q35, q36, q37, q38, q39, q40, q41, q42, q43, q44, q45, q46, q48, q49, q50, q51, q52, q53, q54, q55, q56, q57, q58, q59, q60, q61, q62, q63, q64, q66, q67, q68, q69, q71, q72, q73, q74, q75, q76, q77, q78, q79, q80, q81, q82, q83, q84, q85, q86, q87, q88, q89]⟩
/- slices.partialInsertionSortCmpFunc[attestor/api.Mono] -/
noncomputable def cf85 : HF := ⟨
(.seq (.reg [q8] fun c r s K => K [ff] s)
 (.seq (.reg [q9] fun c r s K => binK .add (r q1) I1 fun v0 => K [v0] s)
 (.seq (.seq (.reg [q10] fun c r s K => K [I0] s)
 (.block n0 (.loop (.seq (.seq (.reg [q16] fun c r s K => binK .lss (r q10) I5 fun v0 => K [v0] s)
 (.cond (.t q16) .skip
 (.exit n0)))
 (.seq (.block n1 (.seq (.block n2 (.loop (.seq (.seq (.drw [q36] fun c r s K => (fun z m => binK .lss (r q9) (r q2) fun v0 => jnD true v0 (fun jj => jj (r q3) m s) m s fun v1 m s => jnD true v0 (fun jj => jj (r q0) m s) m s fun v2 m s => jnD true v0 (fun jj => jj (r q9) m s) m s fun v3 m s => jnD true v0 (fun jj => ixs n2 v2 v3 fun v => jj v m s) m s fun v4 m s => jnD true v0 (fun jj => dN z m (nat_lit 256) (nat_lit 239) s n2 v4 jj) m s fun v5 m s => jnD true v0 (fun jj => jj (r q0) m s) m s fun v6 m s => jnD true v0 (fun jj => jj (r q9) m s) m s fun v7 m s => jnD true v0 (fun jj => binK .sub v7 I1 fun v => jj v m s) m s fun v8 m s => jnD true v0 (fun jj => ixs n2 v6 v8 fun v => jj v m s) m s fun v9 m s => jnD true v0 (fun jj => dN z m (nat_lit 8192) (nat_lit 7695) s n2 v9 jj) m s fun v10 m s => jnD true v0 (fun jj => dw3 m (nat_lit 16384) (nat_lit 16383) s (fun s q => h_op4_callV (.c v1) [(.c v5), (.c v10)] c r s q) jj) m s fun v11 m s => jnD true v0 (fun jj => binK .lss v11 I0 fun v => jj v m s) m s fun v12 m s => jnD true v0 (fun jj => nott v12 fun v => jj v m s) m s fun v13 m s => pck v0 v13 ff fun v14 => K [v14] s) s.next mk0)
 (.cond (.t q36) .skip
 (.exit n2)))
 (.block n3 (.reg [q9] fun c r s K => binK .add (r q9) I1 fun v0 => K [v0] s)))))
 (.seq (.seq (.reg [q41] fun c r s K => binK .eql (r q9) (r q2) fun v0 => K [v0] s)
 (.cond (.t q41) (.seq (.reg [q8] fun c r s K => K [tt] s)
 .ret)
 .skip))
 (.seq (.seq (.reg [q45] fun c r s K => binK .sub (r q2) (r q1) fun v0 => binK .lss v0 (i6 n50) fun v1 => K [v1] s)
 (.cond (.t q45) (.seq (.reg [q8] fun c r s K => K [ff] s)
 .ret)
 .skip))
 (.seq (.drw [] fun c r s K => (fun z m => binK .sub (r q9) I1 fun v0 => binK .sub (r q9) I1 fun v1 => ixs n2 (r q0) v1 fun v2 => dN z m (nat_lit 512) (nat_lit 480) s n2 v2 fun v3 m s => ixs n2 (r q0) (r q9) fun v4 => dN z m (nat_lit 8192) (nat_lit 7168) s n2 v4 fun v5 m s => ixs n2 (r q0) (r q9) fun v6 => dS z m (nat_lit 32768) (nat_lit 32739) s n2 v6 v3 fun _ m s => ixs n2 (r q0) v0 fun v8 => dS z m (nat_lit 131072) (nat_lit 131071) s n2 v8 v5 fun _ m s => K [] s) s.next mk0)
 (.seq (.seq (.reg [q65] fun c r s K => binK .sub (r q9) (r q1) fun v0 => binK .geq v0 I2 fun v1 => K [v1] s)
 (.cond (.t q65) (.seq (.reg [q11] fun c r s K => binK .sub (r q9) I1 fun v0 => K [v0] s)
 (.block n4 (.loop (.seq (.seq (.reg [q69] fun c r s K => binK .geq (r q11) I1 fun v0 => K [v0] s)
 (.cond (.t q69) .skip
 (.exit n4)))
 (.seq (.block n5 (.seq (.seq (.drw [q84] fun c r s K => (fun z m => ixs n2 (r q0) (r q11) fun v0 => dN z m n16 n14 s n2 v0 fun v1 m s => binK .sub (r q11) I1 fun v2 => ixs n2 (r q0) v2 fun v3 => dN z m (nat_lit 512) (nat_lit 480) s n2 v3 fun v4 m s => dw3 m (nat_lit 1024) (nat_lit 1023) s (fun s q => h_op4_callV (.c (r q3)) [(.c v1), (.c v4)] c r s q) fun v5 m s => binK .lss v5 I0 fun v6 => nott v6 fun v7 => K [v7] s) s.next mk0)
 (.cond (.t q84) (.exit n4)
 .skip))
 (.drw [] fun c r s K => (fun z m => binK .sub (r q11) I1 fun v0 => binK .sub (r q11) I1 fun v1 => ixs n2 (r q0) v1 fun v2 => dN z m (nat_lit 512) (nat_lit 480) s n2 v2 fun v3 m s => ixs n2 (r q0) (r q11) fun v4 => dN z m (nat_lit 8192) (nat_lit 7168) s n2 v4 fun v5 m s => ixs n2 (r q0) (r q11) fun v6 => dS z m (nat_lit 32768) (nat_lit 32739) s n2 v6 v3 fun _ m s => ixs n2 (r q0) v0 fun v8 => dS z m (nat_lit 131072) (nat_lit 131071) s n2 v8 v5 fun _ m s => K [] s) s.next mk0)))
 (.reg [q11] fun c r s K => binK .sub (r q11) I1 fun v0 => K [v0] s))))))
 .skip))
 (.seq (.reg [q104] fun c r s K => binK .sub (r q2) (r q9) fun v0 => binK .geq v0 I2 fun v1 => K [v1] s)
 (.cond (.t q104) (.seq (.reg [q12] fun c r s K => binK .add (r q9) I1 fun v0 => K [v0] s)
 (.block n6 (.loop (.seq (.seq (.reg [q109] fun c r s K => binK .lss (r q12) (r q2) fun v0 => K [v0] s)
 (.cond (.t q109) .skip
 (.exit n6)))
 (.seq (.block n7 (.seq (.seq (.drw [q124] fun c r s K => (fun z m => ixs n2 (r q0) (r q12) fun v0 => dN z m n16 n14 s n2 v0 fun v1 m s => binK .sub (r q12) I1 fun v2 => ixs n2 (r q0) v2 fun v3 => dN z m (nat_lit 512) (nat_lit 480) s n2 v3 fun v4 m s => dw3 m (nat_lit 1024) (nat_lit 1023) s (fun s q => h_op4_callV (.c (r q3)) [(.c v1), (.c v4)] c r s q) fun v5 m s => binK .lss v5 I0 fun v6 => nott v6 fun v7 => K [v7] s) s.next mk0)
 (.cond (.t q124) (.exit n6)
 .skip))
 (.drw [] fun c r s K => (fun z m => binK .sub (r q12) I1 fun v0 => binK .sub (r q12) I1 fun v1 => ixs n2 (r q0) v1 fun v2 => dN z m (nat_lit 512) (nat_lit 480) s n2 v2 fun v3 m s => ixs n2 (r q0) (r q12) fun v4 => dN z m (nat_lit 8192) (nat_lit 7168) s n2 v4 fun v5 m s => ixs n2 (r q0) (r q12) fun v6 => dS z m (nat_lit 32768) (nat_lit 32739) s n2 v6 v3 fun _ m s => ixs n2 (r q0) v0 fun v8 => dS z m (nat_lit 131072) (nat_lit 131071) s n2 v8 v5 fun _ m s => K [] s) s.next mk0)))
 (.reg [q12] fun c r s K => binK .add (r q12) I1 fun v0 => K [v0] s))))))
 .skip))))))))
 (.reg [q10] fun c r s K => binK .add (r q10) I1 fun v0 => K [v0] s))))))
 (.seq (.reg [q8] fun c r s K => K [ff] s)
 .ret)))), [(.tmp q8)], [q0, q1, q2, q3], [q13, q14, q15, q19, q20, q21, q22, q23, q24, q25, q26, q27, q28, q29, q30, q31, q32, q33, q34, q35, q37, q38, q39, q40, q42, q43, q44, q46, q47, q48, q49, q50, q51, q52, q53, q54, q55, q56, q57, q58, q59, q60, q61, q62, q63, q64, q66, q67, q68, q72, q73, q74, q75, q76, q77, q78, q79, q80, q81, q82, q83, q85, q86, q87, q88, q89, q90, q91, q92, q93, q94, q95, q96, q97, q98, q99, q100, q70, q71, q101, q102, q103, q105, q106, q107, q108, q112, q113, q114, q115, q116, q117, q118, q119, q120, q121, q122, q123, q125, q126, q127, q128, q129, q130, q131, q132, q133, q134, q135, q136, q137, q138, q139, q140, q110, q111, q17, q18]⟩
/- slices.reverseRangeCmpFunc[attestor/api.Mono] -/
noncomputable def cf84 : HF := ⟨
(.seq (.reg [q8] fun c r s K => K [(r q1)] s)
 (.seq (.reg [q9] fun c r s K => binK .sub (r q2) I1 fun v0 => K [v0] s)
 (.block n0 (.loop (.seq (.seq (.reg [q15] fun c r s K => binK .lss (r q8) (r q9) fun v0 => K [v0] s)
 (.cond (.t q15) .skip
 (.exit n0)))
 (.block n1 (.seq (.drw [] fun c r s K => (fun z m => ixs n2 (r q0) (r q9) fun v0 => dN z m n128 n112 s n2 v0 fun v1 m s => ixs n2 (r q0) (r q8) fun v2 => dN z m (nat_lit 2048) (nat_lit 1792) s n2 v2 fun v3 m s => ixs n2 (r q0) (r q8) fun v4 => dS z m (nat_lit 8192) (nat_lit 8179) s n2 v4 v1 fun _ m s => ixs n2 (r q0) (r q9) fun v6 => dS z m (nat_lit 32768) (nat_lit 32767) s n2 v6 v3 fun _ m s => K [] s) s.next mk0)
 (.seq (.reg [q8] fun c r s K => binK .add (r q8) I1 fun v0 => K [v0] s)
 (.reg [q9] fun c r s K => binK .sub (r q9) I1 fun v0 => K [v0] s))))))))), [], [q0, q1, q2, q3], [q10, q11, q12, q13, q14, q16, q17, q18, q19, q20, q21, q22, q23, q24, q25, q26, q27, q28, q29, q30, q31, q32, q33]⟩
/- slices.choosePivotCmpFunc[attestor/api.Mono] -/
noncomputable def cf83 : HF := ⟨
(.seq (.reg [q8, q9] fun c r s K => K [I0, I0] s)
 (.seq (.reg [q10] fun c r s K => binK .sub (r q2) (r q1) fun v0 => K [v0] s)
 (.seq (.reg [q11] fun c r s K => alc s [zi] fun v0 s => K [v0] s)
 (.seq (.reg [q12] fun c r s K => binK .quo (r q10) I4 fun v0 => binK .mul v0 I1 fun v1 => binK .add (r q1) v1 fun v2 => K [v2] s)
 (.seq (.reg [q13] fun c r s K => binK .quo (r q10) I4 fun v0 => binK .mul v0 I2 fun v1 => binK .add (r q1) v1 fun v2 => K [v2] s)
 (.seq (.reg [q14] fun c r s K => binK .quo (r q10) I4 fun v0 => binK .mul v0 I3 fun v1 => binK .add (r q1) v1 fun v2 => K [v2] s)
 (.seq (.seq (.reg [q34] fun c r s K => binK .geq (r q10) I8 fun v0 => K [v0] s)
 (.cond (.t q34) (.seq (.seq (.reg [q36] fun c r s K => binK .geq (r q10) (i6 n50) fun v0 => K [v0] s)
 (.cond (.t q36) (.seq (.reg [q12] fun c r s K => c n102 [(r q0), (r q12), (r q11), (r q3)] s fun v0 s => K [v0] s)
 (.seq (.reg [q13] fun c r s K => c n102 [(r q0), (r q13), (r q11), (r q3)] s fun v0 s => K [v0] s)
 (.reg [q14] fun c r s K => c n102 [(r q0), (r q14), (r q11), (r q3)] s fun v0 s => K [v0] s)))
 .skip))
 (.reg [q13] fun c r s K => c n103 [(r q0), (r q12), (r q13), (r q14), (r q11), (r q3)] s fun v0 s => K [v0] s))
 .skip))
 (.seq (.reg [q55] fun c r s K => ld s (r q11) fun v0 => K [v0] s)
 (.block n0 (.seq (.reg [q57] fun c r s K => binK .eql (r q55) I0 fun v0 => K [v0] s)
 (.cond (.t q57) (.seq (.reg [q8, q9] fun c r s K => K [(r q13), I1] s)
 .ret)
 (.seq (.reg [q60] fun c r s K => binK .eql (r q55) I12 fun v0 => K [v0] s)
 (.cond (.t q60) (.seq (.reg [q8, q9] fun c r s K => K [(r q13), I2] s)
 .ret)
 (.seq (.reg [q8, q9] fun c r s K => K [(r q13), I0] s)
 .ret)))))))))))))), [(.tmp q8), (.tmp q9)], [q0, q1, q2, q3], [q15, q16, q17, q18, q19, q20, q21, q22, q23, q24, q25, q26, q27, q28, q29, q30, q31, q32, q33, q35, q37, q38, q39, q40, q41, q42, q43, q44, q45, q46, q47, q48, q49, q50, q51, q52, q53, q54, q58, q59, q61, q62, q56]⟩
/- slices.medianCmpFunc[attestor/api.Mono] -/
noncomputable def cf103 : HF := ⟨
(.seq (.reg [q12] fun c r s K => K [I0] s)
 (.seq (.reg [q1, q2] fun c r s K => c n109 [(r q0), (r q1), (r q2), (r q4), (r q5)] s fun v0 s => xE n0 v0 c r s fun v1 s => xE n1 v0 c r s fun v2 s => K [v1, v2] s)
 (.seq (.reg [q2, q3] fun c r s K => c n109 [(r q0), (r q2), (r q3), (r q4), (r q5)] s fun v0 s => xE n0 v0 c r s fun v1 s => xE n1 v0 c r s fun v2 s => K [v1, v2] s)
 (.seq (.reg [q1, q2] fun c r s K => c n109 [(r q0), (r q1), (r q2), (r q4), (r q5)] s fun v0 s => xE n0 v0 c r s fun v1 s => xE n1 v0 c r s fun v2 s => K [v1, v2] s)
 (.seq (.reg [q12] fun c r s K => K [(r q2)] s)
 .ret))))), [(.tmp q12)], [q0, q1, q2, q3, q4, q5], [q14, q15, q16, q17, q18, q19, q13, q20, q21, q23, q24, q25, q26, q27, q28, q22, q29, q30, q32, q33, q34, q35, q36, q37, q31, q38, q39, q40]⟩
/- slices.order2CmpFunc[attestor/api.Mono] -/
noncomputable def cf109 : HF := ⟨
(.seq (.reg [q10, q11] fun c r s K => K [I0, I0] s)
 (.seq (.seq (.drw [q22] fun c r s K => (fun z m => ixs n2 (r q0) (r q2) fun v0 => dN z m n16 n14 s n2 v0 fun v1 m s => ixs n2 (r q0) (r q1) fun v2 => dN z m (nat_lit 256) (nat_lit 224) s n2 v2 fun v3 m s => dw3 m (nat_lit 512) (nat_lit 511) s (fun s q => h_op4_callV (.c (r q4)) [(.c v1), (.c v3)] c r s q) fun v4 m s => binK .lss v4 I0 fun v5 => K [v5] s) s.next mk0)
 (.cond (.t q22) (.seq (.reg [] fun c r s K => xC (r q3) c r s fun v0 s => ld s v0 fun v1 => binK .add v1 I1 fun v2 => xC (r q3) c r s fun v3 s => sto s n1 v3 v2 fun s => K [] s)
 (.seq (.reg [q10, q11] fun c r s K => K [(r q2), (r q1)] s)
 .ret))
 .skip))
 (.seq (.reg [q10, q11] fun c r s K => K [(r q1), (r q2)] s)
 .ret))), [(.tmp q10), (.tmp q11)], [q0, q1, q2, q3, q4], [q12, q13, q14, q15, q16, q17, q18, q19, q20, q21, q23, q24, q25, q26, q27, q28, q29, q30, q31]⟩
/- slices.medianAdjacentCmpFunc[attestor/api.Mono] -/
noncomputable def cf102 : HF := ⟨
(.seq (.reg [q8] fun c r s K => K [I0] s)
 (.seq (.reg [q8] fun c r s K => binK .sub (r q1) I1 fun v0 => binK .add (r q1) I1 fun v1 => c n103 [(r q0), v0, (r q1), v1, (r q2), (r q3)] s fun v2 s => K [v2] s)
 .ret)), [(.tmp q8)], [q0, q1, q2, q3], [q9, q10, q11, q12, q13, q14, q15, q16, q17]⟩
/- slices.breakPatternsCmpFunc[attestor/api.Mono] -/
noncomputable def cf82 : HF := ⟨
(.seq (.reg [q8] fun c r s K => binK .sub (r q2) (r q1) fun v0 => K [v0] s)
 (.seq (.reg [q17] fun c r s K => binK .geq (r q8) I8 fun v0 => K [v0] s)
 (.cond (.t q17) (.seq (.reg [q9] fun c r s K => cnv .u64 (r q8) fun v0 => alc s [zu] fun v1 s => sto s n1 v1 v0 fun s => K [v1] s)
 (.seq (.reg [q10] fun c r s K => c n100 [(r q8)] s fun v0 s => K [v0] s)
 (.seq (.reg [q11] fun c r s K => binK .quo (r q8) I4 fun v0 => binK .mul v0 I2 fun v1 => binK .add (r q1) v1 fun v2 => binK .sub v2 I1 fun v3 => K [v3] s)
 (.block n0 (.loop (.seq (.seq (.reg [q35] fun c r s K => binK .quo (r q8) I4 fun v0 => binK .mul v0 I2 fun v1 => binK .add (r q1) v1 fun v2 => binK .add v2 I1 fun v3 => binK .leq (r q11) v3 fun v4 => K [v4] s)
 (.cond (.t q35) .skip
 (.exit n0)))
 (.seq (.block n1 (.seq (.reg [q12] fun c r s K => c n101 [(r q9)] s fun v0 s => binK .sub (r q10) U1 fun v1 => binK .and v0 v1 fun v2 => cnv .i64 v2 fun v3 => K [v3] s)
 (.seq (.seq (.reg [q45] fun c r s K => binK .geq (r q12) (r q8) fun v0 => K [v0] s)
 (.cond (.t q45) (.reg [q12] fun c r s K => binK .sub (r q12) (r q8) fun v0 => K [v0] s)
 .skip))
 (.drw [] fun c r s K => (fun z m => binK .add (r q1) (r q12) fun v0 => binK .add (r q1) (r q12) fun v1 => ixs n2 (r q0) v1 fun v2 => dN z m (nat_lit 2048) (nat_lit 1984) s n2 v2 fun v3 m s => ixs n2 (r q0) (r q11) fun v4 => dN z m (nat_lit 32768) (nat_lit 28672) s n2 v4 fun v5 m s => ixs n2 (r q0) (r q11) fun v6 => dS z m (nat_lit 131072) (nat_lit 131011) s n2 v6 v3 fun _ m s => ixs n2 (r q0) v0 fun v8 => dS z m (nat_lit 524288) (nat_lit 524287) s n2 v8 v5 fun _ m s => K [] s) s.next mk0))))
 (.reg [q11] fun c r s K => binK .add (r q11) I1 fun v0 => K [v0] s))))))))
 .skip))), [], [q0, q1, q2, q3], [q13, q14, q15, q16, q18, q19, q20, q21, q22, q23, q24, q25, q26, q27, q28, q29, q30, q31, q32, q33, q34, q38, q39, q40, q41, q42, q43, q44, q46, q47, q48, q49, q50, q51, q52, q53, q54, q55, q56, q57, q58, q59, q60, q61, q62, q63, q64, q65, q66, q36, q37]⟩
/- (*slices.xorshift).Next -/
noncomputable def cf101 : HF := ⟨
(.seq (.reg [q2] fun c r s K => K [U0] s)
 (.seq (.drw [] fun c r s K => (fun z m => xC (r q0) c r s fun v0 s => dL z m n4 n3 s v0 fun v1 m s => xC (r q0) c r s fun v2 s => dL z m n32 n24 s v2 fun v3 m s => xS true v3 U13 c r s fun v4 s => binK .xor v1 v4 fun v5 => xC (r q0) c r s fun v6 s => dS z m (nat_lit 512) (nat_lit 511) s n1 v6 v5 fun _ m s => K [] s) s.next mk0)
 (.seq (.drw [] fun c r s K => (fun z m => xC (r q0) c r s fun v0 s => dL z m n4 n3 s v0 fun v1 m s => xC (r q0) c r s fun v2 s => dL z m n32 n24 s v2 fun v3 m s => xS false v3 U7 c r s fun v4 s => binK .xor v1 v4 fun v5 => xC (r q0) c r s fun v6 s => dS z m (nat_lit 512) (nat_lit 511) s n1 v6 v5 fun _ m s => K [] s) s.next mk0)
 (.seq (.drw [] fun c r s K => (fun z m => xC (r q0) c r s fun v0 s => dL z m n4 n3 s v0 fun v1 m s => xC (r q0) c r s fun v2 s => dL z m n32 n24 s v2 fun v3 m s => xS true v3 U17 c r s fun v4 s => binK .xor v1 v4 fun v5 => xC (r q0) c r s fun v6 s => dS z m (nat_lit 512) (nat_lit 511) s n1 v6 v5 fun _ m s => K [] s) s.next mk0)
 (.seq (.reg [q2] fun c r s K => xC (r q0) c r s fun v0 s => ld s v0 fun v1 => K [v1] s)
 .ret))))), [(.tmp q2)], [q0], [q3, q4, q5, q6, q7, q8, q9, q10, q11, q12, q13, q14, q15, q16, q17, q18, q19, q20, q21, q22, q23, q24, q25, q26, q27, q28, q29, q30, q31, q32]⟩
/- slices.nextPowerOfTwo -/
noncomputable def cf100 : HF := ⟨
(.seq (.reg [q2] fun c r s K => K [U0] s)
 (.seq (.reg [q2] fun c r s K => cnv .u64 (r q0) fun v0 => c n67 [v0] s fun v1 s => xS true U1 v1 c r s fun v2 s => K [v2] s)
 .ret)), [(.tmp q2)], [q0], [q3, q4, q5, q6]⟩
/- slices.heapSortCmpFunc[attestor/api.Mono] -/
noncomputable def cf81 : HF := ⟨
(.seq (.reg [q8] fun c r s K => K [(r q1)] s)
 (.seq (.reg [q9] fun c r s K => K [I0] s)
 (.seq (.reg [q10] fun c r s K => binK .sub (r q2) (r q1) fun v0 => K [v0] s)
 (.seq (.seq (.reg [q11] fun c r s K => binK .sub (r q10) I1 fun v0 => binK .quo v0 I2 fun v1 => K [v1] s)
 (.block n0 (.loop (.seq (.seq (.reg [q21] fun c r s K => binK .geq (r q11) I0 fun v0 => K [v0] s)
 (.cond (.t q21) .skip
 (.exit n0)))
 (.seq (.block n1 (.reg [] fun c r s K => c n99 [(r q0), (r q11), (r q10), (r q8), (r q3)] s fun v0 s => K [] s))
 (.reg [q11] fun c r s K => binK .sub (r q11) I1 fun v0 => K [v0] s))))))
 (.seq (.reg [q12] fun c r s K => binK .sub (r q10) I1 fun v0 => K [v0] s)
 (.block n2 (.loop (.seq (.seq (.reg [q33] fun c r s K => binK .geq (r q12) I0 fun v0 => K [v0] s)
 (.cond (.t q33) .skip
 (.exit n2)))
 (.seq (.block n3 (.seq (.drw [] fun c r s K => (fun z m => binK .add (r q8) (r q12) fun v0 => binK .add (r q8) (r q12) fun v1 => ixs n2 (r q0) v1 fun v2 => dN z m (nat_lit 2048) (nat_lit 1984) s n2 v2 fun v3 m s => ixs n2 (r q0) (r q8) fun v4 => dN z m (nat_lit 32768) (nat_lit 28672) s n2 v4 fun v5 m s => ixs n2 (r q0) (r q8) fun v6 => dS z m (nat_lit 131072) (nat_lit 131011) s n2 v6 v3 fun _ m s => ixs n2 (r q0) v0 fun v8 => dS z m (nat_lit 524288) (nat_lit 524287) s n2 v8 v5 fun _ m s => K [] s) s.next mk0)
 (.reg [] fun c r s K => c n99 [(r q0), (r q9), (r q12), (r q8), (r q3)] s fun v0 s => K [] s)))
 (.reg [q12] fun c r s K => binK .sub (r q12) I1 fun v0 => K [v0] s)))))))))), [], [q0, q1, q2, q3], [q13, q14, q15, q16, q17, q18, q19, q20, q24, q25, q26, q27, q28, q29, q22, q23, q30, q31, q32, q36, q37, q38, q39, q40, q41, q42, q43, q44, q45, q46, q47, q48, q49, q50, q51, q52, q53, q54, q55, q56, q57, q58, q59, q34, q35]⟩
/- slices.siftDownCmpFunc[attestor/api.Mono] -/
noncomputable def cf99 : HF := ⟨
(.seq (.reg [q10] fun c r s K => K [(r q1)] s)
 (.block n0 (.loop (.block n1 (.seq (.reg [q11] fun c r s K => binK .mul I2 (r q10) fun v0 => binK .add v0 I1 fun v1 => K [v1] s)
 (.seq (.seq (.reg [q18] fun c r s K => binK .geq (r q11) (r q2) fun v0 => K [v0] s)
 (.cond (.t q18) (.exit n0)
 .skip))
 (.seq (.seq (.drw [q40] fun c r s K => (fun z m => binK .add (r q11) I1 fun v0 => binK .lss v0 (r q2) fun v1 => jnD true v1 (fun jj => jj (r q4) m s) m s fun v2 m s => jnD true v1 (fun jj => jj (r q0) m s) m s fun v3 m s => jnD true v1 (fun jj => jj (r q3) m s) m s fun v4 m s => jnD true v1 (fun jj => jj (r q11) m s) m s fun v5 m s => jnD true v1 (fun jj => binK .add v4 v5 fun v => jj v m s) m s fun v6 m s => jnD true v1 (fun jj => ixs n2 v3 v6 fun v => jj v m s) m s fun v7 m s => jnD true v1 (fun jj => dN z m (nat_lit 2048) (nat_lit 2015) s n2 v7 jj) m s fun v8 m s => jnD true v1 (fun jj => jj (r q0) m s) m s fun v9 m s => jnD true v1 (fun jj => jj (r q3) m s) m s fun v10 m s => jnD true v1 (fun jj => jj (r q11) m s) m s fun v11 m s => jnD true v1 (fun jj => binK .add v10 v11 fun v => jj v m s) m s fun v12 m s => jnD true v1 (fun jj => binK .add v12 I1 fun v => jj v m s) m s fun v13 m s => jnD true v1 (fun jj => ixs n2 v9 v13 fun v => jj v m s) m s fun v14 m s => jnD true v1 (fun jj => dN z m (nat_lit 262144) (nat_lit 258079) s n2 v14 jj) m s fun v15 m s => jnD true v1 (fun jj => dw3 m (nat_lit 524288) (nat_lit 524287) s (fun s q => h_op4_callV (.c v2) [(.c v8), (.c v15)] c r s q) jj) m s fun v16 m s => jnD true v1 (fun jj => binK .lss v16 I0 fun v => jj v m s) m s fun v17 m s => pck v1 v17 ff fun v18 => K [v18] s) s.next mk0)
 (.cond (.t q40) (.reg [q11] fun c r s K => binK .add (r q11) I1 fun v0 => K [v0] s)
 .skip))
 (.seq (.seq (.drw [q58] fun c r s K => (fun z m => binK .add (r q3) (r q10) fun v0 => ixs n2 (r q0) v0 fun v1 => dN z m n64 n62 s n2 v1 fun v2 m s => binK .add (r q3) (r q11) fun v3 => ixs n2 (r q0) v3 fun v4 => dN z m (nat_lit 4096) (nat_lit 3968) s n2 v4 fun v5 m s => dw3 m (nat_lit 8192) (nat_lit 8191) s (fun s q => h_op4_callV (.c (r q4)) [(.c v2), (.c v5)] c r s q) fun v6 m s => binK .lss v6 I0 fun v7 => nott v7 fun v8 => K [v8] s) s.next mk0)
 (.cond (.t q58) .ret
 .skip))
 (.seq (.drw [] fun c r s K => (fun z m => binK .add (r q3) (r q10) fun v0 => binK .add (r q3) (r q11) fun v1 => binK .add (r q3) (r q11) fun v2 => ixs n2 (r q0) v2 fun v3 => dN z m (nat_lit 8192) (nat_lit 7936) s n2 v3 fun v4 m s => binK .add (r q3) (r q10) fun v5 => ixs n2 (r q0) v5 fun v6 => dN z m (nat_lit 524288) (nat_lit 507904) s n2 v6 fun v7 m s => ixs n2 (r q0) v0 fun v8 => dS z m (nat_lit 2097152) (nat_lit 2096911) s n2 v8 v4 fun _ m s => ixs n2 (r q0) v1 fun v10 => dS z m (nat_lit 8388608) (nat_lit 8388607) s n2 v10 v7 fun _ m s => K [] s) s.next mk0)
 (.reg [q10] fun c r s K => K [(r q11)] s)))))))))), [], [q0, q1, q2, q3, q4], [q12, q13, q14, q15, q16, q17, q19, q20, q21, q22, q23, q24, q25, q26, q27, q28, q29, q30, q31, q32, q33, q34, q35, q36, q37, q38, q39, q41, q42, q43, q44, q45, q46, q47, q48, q49, q50, q51, q52, q53, q54, q55, q56, q57, q59, q60, q61, q62, q63, q64, q65, q66, q67, q68, q69, q70, q71, q72, q73, q74, q75, q76, q77, q78, q79, q80, q81]⟩
/- slices.insertionSortCmpFunc[attestor/api.Mono] -/
noncomputable def cf80 : HF := ⟨
(.seq (.reg [q8] fun c r s K => binK .add (r q1) I1 fun v0 => K [v0] s)
 (.block n0 (.loop (.seq (.seq (.reg [q14] fun c r s K => binK .lss (r q8) (r q2) fun v0 => K [v0] s)
 (.cond (.t q14) .skip
 (.exit n0)))
 (.seq (.block n1 (.seq (.reg [q9] fun c r s K => K [(r q8)] s)
 (.block n2 (.loop (.seq (.seq (.drw [q34] fun c r s K => (fun z m => binK .gtr (r q9) (r q1) fun v0 => jnD true v0 (fun jj => jj (r q3) m s) m s fun v1 m s => jnD true v0 (fun jj => jj (r q0) m s) m s fun v2 m s => jnD true v0 (fun jj => jj (r q9) m s) m s fun v3 m s => jnD true v0 (fun jj => ixs n2 v2 v3 fun v => jj v m s) m s fun v4 m s => jnD true v0 (fun jj => dN z m (nat_lit 256) (nat_lit 239) s n2 v4 jj) m s fun v5 m s => jnD true v0 (fun jj => jj (r q0) m s) m s fun v6 m s => jnD true v0 (fun jj => jj (r q9) m s) m s fun v7 m s => jnD true v0 (fun jj => binK .sub v7 I1 fun v => jj v m s) m s fun v8 m s => jnD true v0 (fun jj => ixs n2 v6 v8 fun v => jj v m s) m s fun v9 m s => jnD true v0 (fun jj => dN z m (nat_lit 8192) (nat_lit 7695) s n2 v9 jj) m s fun v10 m s => jnD true v0 (fun jj => dw3 m (nat_lit 16384) (nat_lit 16383) s (fun s q => h_op4_callV (.c v1) [(.c v5), (.c v10)] c r s q) jj) m s fun v11 m s => jnD true v0 (fun jj => binK .lss v11 I0 fun v => jj v m s) m s fun v12 m s => pck v0 v12 ff fun v13 => K [v13] s) s.next mk0)
 (.cond (.t q34) .skip
 (.exit n2)))
 (.seq (.block n3 (.drw [] fun c r s K => (fun z m => binK .sub (r q9) I1 fun v0 => binK .sub (r q9) I1 fun v1 => ixs n2 (r q0) v1 fun v2 => dN z m (nat_lit 512) (nat_lit 480) s n2 v2 fun v3 m s => ixs n2 (r q0) (r q9) fun v4 => dN z m (nat_lit 8192) (nat_lit 7168) s n2 v4 fun v5 m s => ixs n2 (r q0) (r q9) fun v6 => dS z m (nat_lit 32768) (nat_lit 32739) s n2 v6 v3 fun _ m s => ixs n2 (r q0) v0 fun v8 => dS z m (nat_lit 131072) (nat_lit 131071) s n2 v8 v5 fun _ m s => K [] s) s.next mk0))
 (.reg [q9] fun c r s K => binK .sub (r q9) I1 fun v0 => K [v0] s)))))))
 (.reg [q8] fun c r s K => binK .add (r q8) I1 fun v0 => K [v0] s)))))), [], [q0, q1, q2, q3], [q10, q11, q12, q13, q17, q18, q19, q20, q21, q22, q23, q24, q25, q26, q27, q28, q29, q30, q31, q32, q33, q37, q38, q39, q40, q41, q42, q43, q44, q45, q46, q47, q48, q49, q50, q51, q52, q35, q36, q15, q16]⟩
/- math/bits.Len -/
noncomputable def cf67 : HF := ⟨
(.seq (.reg [q2] fun c r s K => K [I0] s)
 (.seq (.cond (.c (.sc (.bool false))) (.seq (.reg [q2] fun c r s K => cnv .u32 (r q0) fun v0 => c n88 [v0] s fun v1 s => K [v1] s)
 .ret)
 .skip)
 (.seq (.reg [q2] fun c r s K => c n89 [(r q0)] s fun v0 s => K [v0] s)
 .ret))), [(.tmp q2)], [q0], [q3, q4, q5, q6, q7]⟩
/- math/bits.Len64 -/
noncomputable def cf89 : HF := ⟨
(.seq (.reg [q2] fun c r s K => K [I0] s)
 (.seq (.seq (.reg [q4] fun c r s K => binK .geq (r q0) (u6 (nat_lit 4294967296)) fun v0 => K [v0] s)
 (.cond (.t q4) (.seq (.reg [q0] fun c r s K => xS false (r q0) U32 c r s fun v0 s => K [v0] s)
 (.reg [q2] fun c r s K => K [I32] s))
 .skip))
 (.seq (.seq (.reg [q8] fun c r s K => binK .geq (r q0) (u6 (nat_lit 65536)) fun v0 => K [v0] s)
 (.cond (.t q8) (.seq (.reg [q0] fun c r s K => xS false (r q0) U16 c r s fun v0 s => K [v0] s)
 (.reg [q2] fun c r s K => binK .add (r q2) I16 fun v0 => K [v0] s))
 .skip))
 (.seq (.seq (.reg [q14] fun c r s K => binK .geq (r q0) (u6 (nat_lit 256)) fun v0 => K [v0] s)
 (.cond (.t q14) (.seq (.reg [q0] fun c r s K => xS false (r q0) U8 c r s fun v0 s => K [v0] s)
 (.reg [q2] fun c r s K => binK .add (r q2) I8 fun v0 => K [v0] s))
 .skip))
 (.seq (.reg [q2] fun c r s K => cnv .u8 (r q0) fun v0 => h_op4_byteAt (.c (.sc (.lit (.string ⟨#[0, 1, 2, 2, 3, 3, 3, 3, 4, 4, 4, 4, 4, 4, 4, 4, 5, 5, 5, 5, 5, 5, 5, 5, 5, 5, 5, 5, 5, 5, 5, 5, 6, 6, 6, 6, 6, 6, 6, 6, 6, 6, 6, 6, 6, 6, 6, 6, 6, 6, 6, 6, 6, 6, 6, 6, 6, 6, 6, 6, 6, 6, 6, 6, 7, 7, 7, 7, 7, 7, 7, 7, 7, 7, 7, 7, 7, 7, 7, 7, 7, 7, 7, 7, 7, 7, 7, 7, 7, 7, 7, 7, 7, 7, 7, 7, 7, 7, 7, 7, 7, 7, 7, 7, 7, 7, 7, 7, 7, 7, 7, 7, 7, 7, 7, 7, 7, 7, 7, 7, 7, 7, 7, 7, 7, 7, 7, 7, 8, 8, 8, 8, 8, 8, 8, 8, 8, 8, 8, 8, 8, 8, 8, 8, 8, 8, 8, 8, 8, 8, 8, 8, 8, 8, 8, 8, 8, 8, 8, 8, 8, 8, 8, 8, 8, 8, 8, 8, 8, 8, 8, 8, 8, 8, 8, 8, 8, 8, 8, 8, 8, 8, 8, 8, 8, 8, 8, 8, 8, 8, 8, 8, 8, 8, 8, 8, 8, 8, 8, 8, 8, 8, 8, 8, 8, 8, 8, 8, 8, 8, 8, 8, 8, 8, 8, 8, 8, 8, 8, 8, 8, 8, 8, 8, 8, 8, 8, 8, 8, 8, 8, 8, 8, 8, 8, 8, 8, 8, 8, 8, 8, 8, 8, 8, 8, 8, 8, 8, 8, 8, 8, 8, 8, 8, 8, 8]⟩)))) (.c v0) c r s fun v1 s => cnv .i64 v1 fun v2 => binK .add (r q2) v2 fun v3 => K [v3] s)
 .ret))))), [(.tmp q2)], [q0], [q3, q5, q6, q7, q9, q10, q11, q12, q13, q15, q16, q17, q18, q19, q20, q21, q22, q23, q24]⟩
/- math/bits.Len32 -/
noncomputable def cf88 : HF := ⟨
(.seq (.reg [q2] fun c r s K => K [I0] s)
 (.seq (.seq (.reg [q4] fun c r s K => binK .geq (r q0) (.sc (.int .u32 (.ofNat (nat_lit 65536)))) fun v0 => K [v0] s)
 (.cond (.t q4) (.seq (.reg [q0] fun c r s K => xS false (r q0) U16 c r s fun v0 s => K [v0] s)
 (.reg [q2] fun c r s K => K [I16] s))
 .skip))
 (.seq (.seq (.reg [q8] fun c r s K => binK .geq (r q0) (.sc (.int .u32 (.ofNat (nat_lit 256)))) fun v0 => K [v0] s)
 (.cond (.t q8) (.seq (.reg [q0] fun c r s K => xS false (r q0) U8 c r s fun v0 s => K [v0] s)
 (.reg [q2] fun c r s K => binK .add (r q2) I8 fun v0 => K [v0] s))
 .skip))
 (.seq (.reg [q2] fun c r s K => cnv .u8 (r q0) fun v0 => h_op4_byteAt (.c (.sc (.lit (.string ⟨#[0, 1, 2, 2, 3, 3, 3, 3, 4, 4, 4, 4, 4, 4, 4, 4, 5, 5, 5, 5, 5, 5, 5, 5, 5, 5, 5, 5, 5, 5, 5, 5, 6, 6, 6, 6, 6, 6, 6, 6, 6, 6, 6, 6, 6, 6, 6, 6, 6, 6, 6, 6, 6, 6, 6, 6, 6, 6, 6, 6, 6, 6, 6, 6, 7, 7, 7, 7, 7, 7, 7, 7, 7, 7, 7, 7, 7, 7, 7, 7, 7, 7, 7, 7, 7, 7, 7, 7, 7, 7, 7, 7, 7, 7, 7, 7, 7, 7, 7, 7, 7, 7, 7, 7, 7, 7, 7, 7, 7, 7, 7, 7, 7, 7, 7, 7, 7, 7, 7, 7, 7, 7, 7, 7, 7, 7, 7, 7, 8, 8, 8, 8, 8, 8, 8, 8, 8, 8, 8, 8, 8, 8, 8, 8, 8, 8, 8, 8, 8, 8, 8, 8, 8, 8, 8, 8, 8, 8, 8, 8, 8, 8, 8, 8, 8, 8, 8, 8, 8, 8, 8, 8, 8, 8, 8, 8, 8, 8, 8, 8, 8, 8, 8, 8, 8, 8, 8, 8, 8, 8, 8, 8, 8, 8, 8, 8, 8, 8, 8, 8, 8, 8, 8, 8, 8, 8, 8, 8, 8, 8, 8, 8, 8, 8, 8, 8, 8, 8, 8, 8, 8, 8, 8, 8, 8, 8, 8, 8, 8, 8, 8, 8, 8, 8, 8, 8, 8, 8, 8, 8, 8, 8, 8, 8, 8, 8, 8, 8, 8, 8, 8, 8, 8, 8, 8, 8]⟩)))) (.c v0) c r s fun v1 s => cnv .i64 v1 fun v2 => binK .add (r q2) v2 fun v3 => K [v3] s)
 .ret)))), [(.tmp q2)], [q0], [q3, q5, q6, q7, q9, q10, q11, q12, q13, q14, q15, q16, q17, q18]⟩
/- attestor/mono.Normal$1 -/
noncomputable def cf40 : HF := ⟨
(.seq (.reg [q1, q2] fun c r s K => bxx s (r q0) fun v0 s => K [v0, ff] s)
 (.seq (.reg [q2] fun c r s K => fad n0 (r q1) fun v0 => ld s v0 fun v1 => binK .eql v1 U0 fun v2 => K [v2] s)
 .ret)), [(.tmp q2)], [q0], [q3, q4, q5]⟩
/- slices.DeleteFunc[[]attestor/api.Mono,attestor/api.Mono] -/
noncomputable def cf39 : HF := ⟨
(.seq (.reg [q4] fun c r s K => K [(.sc zn)] s)
 (.seq (.reg [q5] fun c r s K => c n65 [(r q0), (r q1)] s fun v0 s => K [v0] s)
 (.seq (.seq (.reg [q12] fun c r s K => binK .eql (r q5) (.sc (.int .i64 (.negSucc n0))) fun v0 => K [v0] s)
 (.cond (.t q12) (.seq (.reg [q4] fun c r s K => K [(r q0)] s)
 .ret)
 .skip))
 (.seq (.seq (.reg [q6] fun c r s K => binK .add (r q5) I1 fun v0 => K [v0] s)
 (.block n0 (.loop (.seq (.seq (.reg [q19] fun c r s K => lnS (r q0) fun v0 => binK .lss (r q6) v0 fun v1 => K [v1] s)
 (.cond (.t q19) .skip
 (.exit n0)))
 (.seq (.block n1 (.seq (.reg [q7] fun c r s K => ixs n2 (r q0) (r q6) fun v0 => lN s n2 v0 fun v1 => alc s [zu, zn] fun v2 s => sto s n2 v2 v1 fun s => K [v2] s)
 (.seq (.reg [q29] fun c r s K => lN s n2 (r q7) fun v0 => h_op4_callV (.c (r q1)) [(.c v0)] c r s fun v1 s => nott v1 fun v2 => K [v2] s)
 (.cond (.t q29) (.seq (.reg [] fun c r s K => lN s n2 (r q7) fun v0 => ixs n2 (r q0) (r q5) fun v1 => sto s n2 v1 v0 fun s => K [] s)
 (.reg [q5] fun c r s K => binK .add (r q5) I1 fun v0 => K [v0] s))
 .skip))))
 (.reg [q6] fun c r s K => binK .add (r q6) I1 fun v0 => K [v0] s))))))
 (.seq (.reg [] fun c r s K => h_op3_sliceS n2 (.c (r q0)) (some (.c (r q5))) none none c r s fun v0 s => h_op5_clearS n2 [zu, zn] (.c v0) c r s fun _ s => K [] s)
 (.seq (.reg [q4] fun c r s K => h_op3_sliceS n2 (.c (r q0)) none (some (.c (r q5))) none c r s fun v0 s => K [v0] s)
 .ret)))))), [(.tmp q4)], [q0, q1], [q8, q9, q10, q11, q13, q14, q15, q16, q17, q18, q22, q23, q24, q25, q26, q27, q28, q30, q31, q32, q33, q34, q35, q20, q21, q36, q37, q38, q39, q40, q41]⟩
/- slices.IndexFunc[[]attestor/api.Mono,attestor/api.Mono] -/
noncomputable def cf65 : HF := ⟨
(.seq (.reg [q4] fun c r s K => K [I0] s)
 (.seq (.seq (.reg [q7, q8] fun c r s K => lnS (r q0) fun v0 => K [v0, I0] s)
 (.block n0 (.loop (.seq (.reg [q9] fun c r s K => binK .lss (r q8) (r q7) fun v0 => K [v0] s)
 (.seq (.cond (.t q9) .skip
 (.exit n0))
 (.seq (.block n1 (.seq (.reg [q5] fun c r s K => K [(r q8)] s)
 (.seq (.reg [q16] fun c r s K => ixs n2 (r q0) (r q5) fun v0 => lN s n2 v0 fun v1 => h_op4_callV (.c (r q1)) [(.c v1)] c r s fun v2 s => K [v2] s)
 (.cond (.t q16) (.seq (.reg [q4] fun c r s K => K [(r q5)] s)
 .ret)
 .skip))))
 (.reg [q8] fun c r s K => binK .add (r q8) I1 fun v0 => K [v0] s)))))))
 (.seq (.reg [q4] fun c r s K => (fun v0 => K [v0] s) (.sc (.int .i64 (.negSucc n0))))
 .ret))), [(.tmp q4)], [q0, q1], [q6, q10, q11, q12, q13, q14, q15, q17, q18]⟩
/- attestor/mono.key -/
noncomputable def cf38 : HF := ⟨
(.seq (.reg [q2] fun c r s K => (fun v0 => K [v0] s) (.sc (.lit (.string ⟨#[]⟩))))
 (.seq (.reg [q3] fun c r s K => K [(.sc zn)] s)
 (.seq (.seq (.reg [q6, q7, q8] fun c r s K => lnS (r q0) fun v0 => K [(r q0), v0, I0] s)
 (.block n0 (.loop (.seq (.reg [q9] fun c r s K => binK .lss (r q8) (r q7) fun v0 => K [v0] s)
 (.seq (.cond (.t q9) .skip
 (.exit n0))
 (.seq (.block n1 (.seq (.reg [q5] fun c r s K => ixs n2 (r q6) (r q8) fun v0 => lN s n2 v0 fun v1 => alc s [zb, zi] fun v2 s => sto s n2 v2 v1 fun s => K [v2] s)
 (.seq (.reg [q3] fun c r s K => fad n0 (r q5) fun v0 => ld s v0 fun v1 => h_op3_buildS n2 n1 [zb, zb] [(n0, n1, (.c v1)), (n1, n1, (.c B32))] c r s fun v2 s => xA n1 n1 (r q3) v2 c r s fun v3 s => K [v3] s)
 (.seq (.reg [q3] fun c r s K => fad n1 (r q5) fun v0 => ld s v0 fun v1 => c n64 [(r q3), v1, I10] s fun v2 s => K [v2] s)
 (.reg [q3] fun c r s K => h_op3_buildS n1 n1 [zb] [(n0, n1, (.c B32))] c r s fun v0 s => xA n1 n1 (r q3) v0 c r s fun v1 s => K [v1] s)))))
 (.reg [q8] fun c r s K => binK .add (r q8) I1 fun v0 => K [v0] s)))))))
 (.seq (.reg [q2] fun c r s K => h_op5_strOf (.c (r q3)) c r s fun v0 s => K [v0] s)
 .ret)))), [(.tmp q2)], [q0], [q10, q11, q12, q13, q14, q15, q16, q17, q18, q19, q20, q21, q22, q23, q24, q25, q26]⟩
/- strconv.AppendInt -/
noncomputable def cf64 : HF := ⟨
(.seq (.reg [q6] fun c r s K => K [(.sc zn)] s)
 (.seq (.reg [q6] fun c r s K => c n79 [(r q0), (r q1), (r q2)] s fun v0 s => K [v0] s)
 .ret)), [(.tmp q6)], [q0, q1, q2], [q7, q8, q9, q10]⟩
/- internal/strconv.AppendInt -/
noncomputable def cf79 : HF := ⟨
(.seq (.reg [q6] fun c r s K => K [(.sc zn)] s)
 (.seq (.reg [q7] fun c r s K => cnv .u64 (r q1) fun v0 => K [v0] s)
 (.seq (.seq (.reg [q11] fun c r s K => binK .lss (r q1) I0 fun v0 => K [v0] s)
 (.cond (.t q11) (.seq (.reg [q0] fun c r s K => h_op3_buildS n1 n1 [zb] [(n0, n1, (.c (u8 n45)))] c r s fun v0 s => xA n1 n1 (r q0) v0 c r s fun v1 s => K [v1] s)
 (.reg [q7] fun c r s K => h_op4_neg (.c (r q7)) c r s fun v0 s => K [v0] s))
 .skip))
 (.seq (.reg [q6] fun c r s K => c n98 [(r q0), (r q7), (r q2)] s fun v0 s => K [v0] s)
 .ret)))), [(.tmp q6)], [q0, q1, q2], [q8, q9, q10, q12, q13, q14, q15, q16, q17, q18, q19, q20]⟩
/- internal/strconv.AppendUint -/
noncomputable def cf98 : HF := ⟨
(.seq (.reg [q6] fun c r s K => K [(.sc zn)] s)
 (.seq (.seq (.reg [q10] fun c r s K => binK .eql (r q2) I10 fun v0 => K [v0] s)
 (.cond (.t q10) (.seq (.seq (.reg [q12] fun c r s K => binK .lss (r q1) (u6 n100) fun v0 => K [v0] s)
 (.cond (.t q12) (.seq (.reg [q6] fun c r s K => cnv .i64 (r q1) fun v0 => c n91 [v0] s fun v1 s => h_op5_appendT n1 n1 (.c (r q0)) (.c v1) c r s fun v2 s => K [v2] s)
 .ret)
 .skip))
 (.seq (.reg [q7] fun c r s K => alc s [zb, zb, zb, zb, zb, zb, zb, zb, zb, zb, zb, zb, zb, zb, zb, zb, zb, zb, zb, zb, zb, zb, zb, zb] fun v0 s => K [v0] s)
 (.seq (.reg [q8] fun c r s K => c n92 [(r q1)] s fun v0 s => K [v0] s)
 (.seq (.reg [] fun c r s K => h_op3_sliceA n24 n1 (.c (r q7)) none (some (.c (r q8))) none c r s fun v0 s => c n93 [v0, (r q1)] s fun v1 s => K [] s)
 (.seq (.reg [q6] fun c r s K => h_op3_sliceA n24 n1 (.c (r q7)) none (some (.c (r q8))) none c r s fun v0 s => xA n1 n1 (r q0) v0 c r s fun v1 s => K [v1] s)
 .ret)))))
 .skip))
 (.seq (.reg [q0] fun c r s K => c n94 [(r q0), (r q1), (r q2), ff, tt] s fun v0 s => xE n0 v0 c r s fun v1 s => xE n1 v0 c r s fun v2 s => K [v1] s)
 (.seq (.reg [q6] fun c r s K => K [(r q0)] s)
 .ret)))), [(.tmp q6)], [q0, q1, q2], [q9, q11, q13, q14, q15, q16, q17, q18, q19, q20, q21, q22, q23, q24, q25, q26, q27, q29, q30, q31, q32, q28, q33, q34, q35]⟩
/- internal/strconv.formatBits -/
noncomputable def cf94 : HF := ⟨
(.seq (.reg [q10, q11] fun c r s K => (fun v0 => K [(.sc zn), v0] s) (.sc (.lit (.string ⟨#[]⟩))))
 (.seq (.seq (.reg [q28] fun c r s K => binK .lss (r q2) I2 fun v0 => mf v0 (r q2) s fun v1 s => jf v0 (binK .eql v1 I10) s fun v2 s => pck v0 tt v2 fun v3 => mf v3 (r q2) s fun v4 s => jf v3 (binK .gtr v4 I36) s fun v5 s => pck v3 tt v5 fun v6 => K [v6] s)
 (.cond (.t q28) (.reg [] fun c r s K => h_op4_iface n9 (.c (.sc (.lit (.string ⟨#[115, 116, 114, 99, 111, 110, 118, 58, 32, 105, 108, 108, 101, 103, 97, 108, 32, 65, 112, 112, 101, 110, 100, 73, 110, 116, 47, 70, 111, 114, 109, 97, 116, 73, 110, 116, 32, 98, 97, 115, 101]⟩)))) c r s fun v0 s => h_op4_bad n102 c r s fun _ s => K [] s)
 .skip))
 (.seq (.reg [q12] fun c r s K => alc s [zb, zb, zb, zb, zb, zb, zb, zb, zb, zb, zb, zb, zb, zb, zb, zb, zb, zb, zb, zb, zb, zb, zb, zb, zb, zb, zb, zb, zb, zb, zb, zb, zb, zb, zb, zb, zb, zb, zb, zb, zb, zb, zb, zb, zb, zb, zb, zb, zb, zb, zb, zb, zb, zb, zb, zb, zb, zb, zb, zb, zb, zb, zb, zb, zb] fun v0 s => K [v0] s)
 (.seq (.reg [q13] fun c r s K => K [(i6 n65)] s)
 (.seq (.seq (.reg [q30] fun c r s K => K [(r q3)] s)
 (.cond (.t q30) (.reg [q1] fun c r s K => h_op4_neg (.c (r q1)) c r s fun v0 s => K [v0] s)
 .skip))
 (.seq (.seq (.reg [q34] fun c r s K => c n106 [(r q2)] s fun v0 s => K [v0] s)
 (.cond (.t q34) (.seq (.reg [q14] fun c r s K => cnv .u64 (r q2) fun v0 => c n107 [v0] s fun v1 s => cnv .u64 v1 fun v2 => K [v2] s)
 (.seq (.reg [q15] fun c r s K => cnv .u64 (r q2) fun v0 => K [v0] s)
 (.seq (.reg [q16] fun c r s K => cnv .u64 (r q2) fun v0 => binK .sub v0 U1 fun v1 => K [v1] s)
 (.seq (.block n0 (.loop (.seq (.seq (.reg [q46] fun c r s K => binK .geq (r q1) (r q15) fun v0 => K [v0] s)
 (.cond (.t q46) .skip
 (.exit n0)))
 (.block n1 (.seq (.reg [q13] fun c r s K => binK .sub (r q13) I1 fun v0 => K [v0] s)
 (.seq (.reg [] fun c r s K => binK .and (r q1) (r q16) fun v0 => h_op4_byteAt (.c (.sc (.lit (.string ⟨#[48, 49, 50, 51, 52, 53, 54, 55, 56, 57, 97, 98, 99, 100, 101, 102, 103, 104, 105, 106, 107, 108, 109, 110, 111, 112, 113, 114, 115, 116, 117, 118, 119, 120, 121, 122]⟩)))) (.c v0) c r s fun v1 s => ixA n65 n1 (r q12) (r q13) fun v2 => sto s n1 v2 v1 fun s => K [] s)
 (.reg [q1] fun c r s K => xS false (r q1) (r q14) c r s fun v0 s => K [v0] s)))))))
 (.seq (.reg [q13] fun c r s K => binK .sub (r q13) I1 fun v0 => K [v0] s)
 (.reg [] fun c r s K => h_op4_byteAt (.c (.sc (.lit (.string ⟨#[48, 49, 50, 51, 52, 53, 54, 55, 56, 57, 97, 98, 99, 100, 101, 102, 103, 104, 105, 106, 107, 108, 109, 110, 111, 112, 113, 114, 115, 116, 117, 118, 119, 120, 121, 122]⟩)))) (.c (r q1)) c r s fun v0 s => ixA n65 n1 (r q12) (r q13) fun v1 => sto s n1 v1 v0 fun s => K [] s))))))
 (.seq (.reg [q17] fun c r s K => cnv .u64 (r q2) fun v0 => K [v0] s)
 (.seq (.block n2 (.loop (.seq (.seq (.reg [q68] fun c r s K => binK .geq (r q1) (r q17) fun v0 => K [v0] s)
 (.cond (.t q68) .skip
 (.exit n2)))
 (.block n3 (.seq (.reg [q13] fun c r s K => binK .sub (r q13) I1 fun v0 => K [v0] s)
 (.seq (.reg [q18] fun c r s K => binK .quo (r q1) (r q17) fun v0 => K [v0] s)
 (.seq (.reg [] fun c r s K => binK .mul (r q18) (r q17) fun v0 => binK .sub (r q1) v0 fun v1 => h_op4_byteAt (.c (.sc (.lit (.string ⟨#[48, 49, 50, 51, 52, 53, 54, 55, 56, 57, 97, 98, 99, 100, 101, 102, 103, 104, 105, 106, 107, 108, 109, 110, 111, 112, 113, 114, 115, 116, 117, 118, 119, 120, 121, 122]⟩)))) (.c v1) c r s fun v2 s => ixA n65 n1 (r q12) (r q13) fun v3 => sto s n1 v3 v2 fun s => K [] s)
 (.reg [q1] fun c r s K => K [(r q18)] s))))))))
 (.seq (.reg [q13] fun c r s K => binK .sub (r q13) I1 fun v0 => K [v0] s)
 (.reg [] fun c r s K => h_op4_byteAt (.c (.sc (.lit (.string ⟨#[48, 49, 50, 51, 52, 53, 54, 55, 56, 57, 97, 98, 99, 100, 101, 102, 103, 104, 105, 106, 107, 108, 109, 110, 111, 112, 113, 114, 115, 116, 117, 118, 119, 120, 121, 122]⟩)))) (.c (r q1)) c r s fun v0 s => ixA n65 n1 (r q12) (r q13) fun v1 => sto s n1 v1 v0 fun s => K [] s))))))
 (.seq (.seq (.reg [q89] fun c r s K => K [(r q3)] s)
 (.cond (.t q89) (.seq (.reg [q13] fun c r s K => binK .sub (r q13) I1 fun v0 => K [v0] s)
 (.reg [] fun c r s K => ixA n65 n1 (r q12) (r q13) fun v0 => sto s n1 v0 (u8 n45) fun s => K [] s))
 .skip))
 (.seq (.seq (.reg [q94] fun c r s K => K [(r q4)] s)
 (.cond (.t q94) (.seq (.reg [q10] fun c r s K => h_op3_sliceA n65 n1 (.c (r q12)) (some (.c (r q13))) none none c r s fun v0 s => xA n1 n1 (r q0) v0 c r s fun v1 s => K [v1] s)
 .ret)
 .skip))
 (.seq (.reg [q11] fun c r s K => h_op3_sliceA n65 n1 (.c (r q12)) (some (.c (r q13))) none none c r s fun v0 s => h_op5_strOf (.c v0) c r s fun v1 s => K [v1] s)
 .ret))))))))), [(.tmp q10), (.tmp q11)], [q0, q1, q2, q3, q4], [q19, q20, q21, q22, q23, q24, q25, q26, q27, q29, q31, q32, q33, q35, q36, q37, q38, q39, q40, q41, q42, q43, q44, q45, q47, q48, q49, q50, q51, q52, q53, q54, q55, q56, q57, q58, q59, q60, q61, q62, q63, q64, q65, q66, q67, q69, q70, q71, q72, q73, q74, q75, q76, q77, q78, q79, q80, q81, q82, q83, q84, q85, q86, q87, q88, q90, q91, q92, q93, q95, q96, q97, q98, q99, q100, q101]⟩
/- math/bits.TrailingZeros -/
noncomputable def cf107 : HF := ⟨
(.seq (.reg [q2] fun c r s K => K [I0] s)
 (.seq (.cond (.c (.sc (.bool false))) (.seq (.reg [q2] fun c r s K => cnv .u32 (r q0) fun v0 => c n110 [v0] s fun v1 s => K [v1] s)
 .ret)
 .skip)
 (.seq (.reg [q2] fun c r s K => c n111 [(r q0)] s fun v0 s => K [v0] s)
 .ret))), [(.tmp q2)], [q0], [q3, q4, q5, q6, q7]⟩
/- math/bits.TrailingZeros64 -/
noncomputable def cf111 : HF := ⟨
(.seq (.reg [q2] fun c r s K => K [I0] s)
 (.seq (.seq (.reg [q4] fun c r s K => binK .eql (r q0) U0 fun v0 => K [v0] s)
 (.cond (.t q4) (.seq (.reg [q2] fun c r s K => K [(i6 n64)] s)
 .ret)
 .skip))
 (.seq (.reg [q2] fun c r s K => h_op4_neg (.c (r q0)) c r s fun v0 s => binK .and (r q0) v0 fun v1 => binK .mul v1 (u6 (nat_lit 285870213051353865)) fun v2 => xS false v2 (u6 n58) c r s fun v3 s => ixA n64 n1 (.sc (.ptr n3 n0)) v3 fun v4 => ld s v4 fun v5 => cnv .i64 v5 fun v6 => K [v6] s)
 .ret))), [(.tmp q2)], [q0], [q3, q5, q6, q7, q8, q9, q10, q11, q12, q13]⟩
/- math/bits.TrailingZeros32 -/
noncomputable def cf110 : HF := ⟨
(.seq (.reg [q2] fun c r s K => K [I0] s)
 (.seq (.seq (.reg [q4] fun c r s K => binK .eql (r q0) (.sc (.int .u32 (.ofNat n0))) fun v0 => K [v0] s)
 (.cond (.t q4) (.seq (.reg [q2] fun c r s K => K [I32] s)
 .ret)
 .skip))
 (.seq (.reg [q2] fun c r s K => h_op4_neg (.c (r q0)) c r s fun v0 s => binK .and (r q0) v0 fun v1 => binK .mul v1 (.sc (.int .u32 (.ofNat (nat_lit 125613361)))) fun v2 => xS false v2 U27 c r s fun v3 s => ixA n32 n1 (.sc (.ptr n2 n0)) v3 fun v4 => ld s v4 fun v5 => cnv .i64 v5 fun v6 => K [v6] s)
 .ret))), [(.tmp q2)], [q0], [q3, q5, q6, q7, q8, q9, q10, q11, q12, q13]⟩
/- internal/strconv.isPowerOfTwo -/
noncomputable def cf106 : HF := ⟨
(.seq (.reg [q2] fun c r s K => K [ff] s)
 (.seq (.reg [q2] fun c r s K => binK .sub (r q0) I1 fun v0 => binK .and (r q0) v0 fun v1 => binK .eql v1 I0 fun v2 => K [v2] s)
 .ret)), [(.tmp q2)], [q0], [q3, q4, q5, q6, q7]⟩
end Go.Proofs.YtgknegdikgdfeaaDoor.Ev
