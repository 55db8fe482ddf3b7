/- Compiled functions of the translated program, and that each is what the compiler makes of it; no conditions. -/
import Derived.Test.YtebbnkahklbhiaaGreatDoorEvC
import Derived.KernelRfl
namespace Go.Proofs.YtebbnkahklbhiaaGreatDoor.Ev
set_option maxRecDepth 100000
set_option linter.unusedVariables false
/- attestor/lowdegree.last -/
noncomputable def cf146 : HF := ⟨
(.seq (.reg [q1, q2, q3] fun c r s K => bxx s (r q0) fun v0 s => alc s [zi, zi, zu] fun v1 s => K [v0, v1, I0] s)
 (.seq (.reg [q4] fun c r s K => fad n0 (r q1) fun v0 => lN s n3 v0 fun v1 => alc s [zi, zi, zu] fun v2 s => sto s n3 v2 v1 fun s => K [v2] s)
 (.seq (.seq (.reg [q9, q10] fun c r s K => fad n3 (r q1) fun v0 => ld s v0 fun v1 => c (nat_lit 269) [v1] s fun v2 s => K [v2, I0] s)
 (.block n0 (.loop (.seq (.reg [q11] fun c r s K => binK .lss (r q10) (r q9) fun v0 => K [v0] s)
 (.seq (.cond (.t q11) .skip
 (.exit n0))
 (.seq (.block n1 (.reg [] fun c r s K => lN s n3 (r q4) fun v0 => c (nat_lit 271) [v0] s fun v1 s => xE n0 v1 c r s fun v2 s => xE n1 v1 c r s fun v3 s => sto s n3 (r q4) v2 fun s => K [] s))
 (.reg [q10] fun c r s K => binK .add (r q10) I1 fun v0 => K [v0] s)))))))
 (.seq (.drw [q3] fun c r s K => (fun z m => dN z m n1 n0 s n3 (r q4) fun v0 m s => fad n3 (r q1) fun v1 => dL z m n4 n2 s v1 fun v2 m s => fad n3 (r q1) fun v3 => dL z m n16 n8 s v3 fun v4 m s => dw3 m n32 n24 s (fun s q => c (nat_lit 269) [v4] s q) fun v5 m s => binK .mul I3 v5 fun v6 => binK .sub v2 v6 fun v7 => xS true I1 v7 c r s fun v8 s => dS z m (nat_lit 512) n57 s n3 (r q2) v0 fun _ m s => K [v8] s) s.next mk0)
 .ret)))), [(.cellN n3 q2), (.tmp q3)], [q0], [q5, q6, q7, q8, q13, q14, q12, q15, q16, q17, q18, q19, q20, q21, q22, q23, q24, q25, q26]⟩
/- attestor/fold.Word -/
noncomputable def cf145 : HF := ⟨
(.seq (.reg [q3, q6, q7] fun c r s K => bxx s (r q0) fun v0 s => K [v0, (.sc zn), I0] s)
 (.seq (.block n0 (.seq (.reg [q11] fun c r s K => lN s n3 (r q3) fun v0 => c (nat_lit 268) [v0, (r q1)] s fun v1 s => nott v1 fun v2 => K [v2] s)
 (.cond (.t q11) (.seq (.reg [q6, q7] fun c r s K => K [(.sc zn), I1] s)
 .ret)
 (.seq (.reg [q16] fun c r s K => fad n1 (r q3) fun v0 => ld s v0 fun v1 => binK .lss v1 I3 fun v2 => K [v2] s)
 (.cond (.t q16) (.seq (.reg [q6, q7] fun c r s K => K [(.sc zn), I2] s)
 .ret)
 .skip)))))
 (.seq (.reg [q8] fun c r s K => lnS (r q1) fun v0 => binK .quo v0 I8 fun v1 => xM n1 n8 [zu] v1 v1 c r s fun v2 s => K [v2] s)
 (.seq (.seq (.reg [q25, q26] fun c r s K => lnS (r q8) fun v0 => K [v0, I0] s)
 (.block n1 (.loop (.seq (.reg [q27] fun c r s K => binK .lss (r q26) (r q25) fun v0 => K [v0] s)
 (.seq (.cond (.t q27) .skip
 (.exit n1))
 (.seq (.block n2 (.seq (.reg [q9] fun c r s K => K [(r q26)] s)
 (.seq (.reg [q10] fun c r s K => lN s n3 (r q3) fun v0 => c (nat_lit 274) [v0, (r q1), (r q9)] s fun v1 s => alc s [zu, zu, zu, zu, zu, zu, zu, zu] fun v2 s => sto s n8 v2 v1 fun s => K [v2] s)
 (.drw [] fun c r s K => (fun z m => fad n0 (r q3) fun v0 => dL z m n8 n4 s v0 fun v1 m s => dw2 z m n16 n0 (r q10) (fun q => h_op3_sliceA n8 n1 (.c (r q10)) none none none c r s q) fun v2 m s => dw3 m n64 n60 s (fun s q => c (nat_lit 275) [v1, v2, (r q2)] s q) fun v3 m s => ixs n1 (r q8) (r q9) fun v4 => dS z m (nat_lit 256) (nat_lit 255) s n1 v4 v3 fun _ m s => K [] s) s.next mk0))))
 (.reg [q26] fun c r s K => binK .add (r q26) I1 fun v0 => K [v0] s)))))))
 (.seq (.reg [q6, q7] fun c r s K => K [(r q8), I0] s)
 .ret))))), [(.tmp q6), (.tmp q7)], [q0, q1, q2], [q12, q13, q14, q15, q17, q18, q19, q20, q21, q22, q23, q24, q28, q29, q30, q31, q32, q33, q34, q35, q36, q37, q38, q39, q40, q41, q42]⟩
/- attestor/poly.Eval -/
noncomputable def cf275 : HF := ⟨
(.seq (.reg [q6] fun c r s K => K [U0] s)
 (.seq (.reg [q7] fun c r s K => K [U0] s)
 (.seq (.seq (.reg [q10, q11] fun c r s K => lnS (r q1) fun v0 => K [v0, I0] s)
 (.block n0 (.loop (.seq (.reg [q12] fun c r s K => binK .lss (r q11) (r q10) fun v0 => K [v0] s)
 (.seq (.cond (.t q12) .skip
 (.exit n0))
 (.seq (.block n1 (.seq (.reg [q8] fun c r s K => K [(r q11)] s)
 (.drw [q7] fun c r s K => (fun z m => dw3 m n16 n14 s (fun s q => c n138 [(r q0), (r q7), (r q2)] s q) fun v0 m s => lnS (r q1) fun v1 => binK .sub v1 I1 fun v2 => binK .sub v2 (r q8) fun v3 => ixs n1 (r q1) v3 fun v4 => dL z m (nat_lit 4096) (nat_lit 4064) s v4 fun v5 m s => dw3 m (nat_lit 8192) (nat_lit 8191) s (fun s q => c n137 [(r q0), v0, v5] s q) fun v6 m s => K [v6] s) s.next mk0)))
 (.reg [q11] fun c r s K => binK .add (r q11) I1 fun v0 => K [v0] s)))))))
 (.seq (.reg [q6] fun c r s K => K [(r q7)] s)
 .ret)))), [(.tmp q6)], [q0, q1, q2], [q9, q13, q14, q15, q16, q17, q18, q19, q20, q21, q22, q23, q24, q25, q26, q27, q28, q29]⟩
/- attestor/code.Local -/
noncomputable def cf274 : HF := ⟨
(.seq (.reg [q3, q6] fun c r s K => bxx s (r q0) fun v0 s => alc s [zu, zu, zu, zu, zu, zu, zu, zu] fun v1 s => K [v0, v1] s)
 (.seq (.seq (.reg [q26] fun c r s K => lN s n3 (r q3) fun v0 => c (nat_lit 364) [v0, (r q1)] s fun v1 s => nott v1 fun v2 => jf v2 (fad n1 (r q3)) s fun v3 s => jf v2 (ld s v3) s fun v4 s => jf v2 (binK .lss v4 I3) s fun v5 s => pck v2 tt v5 fun v6 => mf v6 (r q2) s fun v7 s => jf v6 (binK .lss v7 I0) s fun v8 s => pck v6 tt v8 fun v9 => mf v9 (r q2) s fun v10 s => mf v9 (r q1) s fun v11 s => jf v9 (lnS v11) s fun v12 s => jf v9 (binK .quo v12 I8) s fun v13 s => jf v9 (binK .geq v10 v13) s fun v14 s => pck v9 tt v14 fun v15 => K [v15] s)
 (.cond (.t q26) (.seq (.reg [] fun c r s K => h_op3_build [zu, zu, zu, zu, zu, zu, zu, zu] [] c r s fun v0 s => sto s n8 (r q6) v0 fun s => K [] s)
 .ret)
 .skip))
 (.seq (.reg [] fun c r s K => lN s n3 (r q3) fun v0 => c (nat_lit 365) [v0, (r q1), (r q2)] s fun v1 s => sto s n8 (r q6) v1 fun s => K [] s)
 .ret))), [(.cellN n8 q6)], [q0, q1, q2], [q7, q8, q9, q10, q11, q12, q13, q14, q15, q16, q17, q18, q19, q20, q21, q22, q23, q24, q25, q27, q28, q29, q30, q31]⟩
/- attestor/code.local -/
noncomputable def cf365 : HF := ⟨
(.seq (.reg [q3, q6] fun c r s K => bxx s (r q0) fun v0 s => alc s [zu, zu, zu, zu, zu, zu, zu, zu] fun v1 s => K [v0, v1] s)
 (.seq (.reg [q7, q8] fun c r s K => alc s [zu, zu, zu, zu, zu, zu, zu, zu] fun v0 s => alc s [zu, zu, zu, zu, zu, zu, zu, zu] fun v1 s => K [v0, v1] s)
 (.seq (.seq (.reg [q12] fun c r s K => K [I0] s)
 (.block n0 (.loop (.seq (.reg [q13] fun c r s K => binK .lss (r q12) I8 fun v0 => K [v0] s)
 (.seq (.cond (.t q13) .skip
 (.exit n0))
 (.seq (.block n1 (.seq (.reg [q9] fun c r s K => K [(r q12)] s)
 (.reg [] fun c r s K => lnS (r q1) fun v0 => binK .mul (r q9) v0 fun v1 => binK .quo v1 I8 fun v2 => binK .add (r q2) v2 fun v3 => ixs n1 (r q1) v3 fun v4 => ld s v4 fun v5 => ixA n8 n1 (r q7) (r q9) fun v6 => sto s n1 v6 v5 fun s => K [] s)))
 (.reg [q12] fun c r s K => binK .add (r q12) I1 fun v0 => K [v0] s)))))))
 (.seq (.drw [q10] fun c r s K => (fun z m => fad n0 (r q3) fun v0 => dL z m n2 n1 s v0 fun v1 m s => dN z m n4 n0 s n3 (r q3) fun v2 m s => dw3 m n16 n12 s (fun s q => c (nat_lit 323) [v2, (r q2)] s q) fun v3 m s => dw2 z m n32 n0 (r q7) (fun q => h_op3_sliceA n8 n1 (.c (r q7)) none none none c r s q) fun v4 m s => dw3 m n64 n63 s (fun s q => c n112 [v1, v3, v4] s q) fun v5 m s => xE n0 v5 c r s fun v6 s => xE n1 v5 c r s fun v7 s => K [v6] s) s.next mk0)
 (.seq (.reg [] fun c r s K => h_op3_sliceA n8 n1 (.c (r q8)) none none none c r s fun v0 s => h_op3_copy n1 (.c v0) (.c (r q10)) c r s fun v1 s => K [] s)
 (.seq (.reg [] fun c r s K => lN s n8 (r q8) fun v0 => sto s n8 (r q6) v0 fun s => K [] s)
 .ret)))))), [(.cellN n8 q6)], [q0, q1, q2], [q14, q15, q16, q17, q18, q19, q20, q21, q22, q23, q24, q25, q26, q27, q29, q30, q31, q32, q33, q34, q35, q28, q36, q37, q11, q38, q39, q40, q41]⟩
/- attestor/code.Point -/
noncomputable def cf323 : HF := ⟨
(.seq (.reg [q2, q4] fun c r s K => bxx s (r q0) fun v0 s => K [v0, U0] s)
 (.seq (.seq (.reg [q12] fun c r s K => binK .lss (r q1) I0 fun v0 => mf v0 (r q1) s fun v1 s => jf v0 (lN s n3 (r q2)) s fun v2 s => jn false v0 (fun j => c n141 [v2] s j) s fun v3 s => jf v0 (binK .geq v1 v3) s fun v4 s => pck v0 tt v4 fun v5 => K [v5] s)
 (.cond (.t q12) (.seq (.reg [q4] fun c r s K => K [U0] s)
 .ret)
 .skip))
 (.seq (.drw [q4] fun c r s K => (fun z m => fad n0 (r q2) fun v0 => dL z m n2 n1 s v0 fun v1 m s => fad n2 (r q2) fun v2 => dL z m n8 n4 s v2 fun v3 m s => fad n0 (r q2) fun v4 => dL z m n32 n16 s v4 fun v5 m s => fad n0 (r q2) fun v6 => dL z m n128 n64 s v6 fun v7 m s => fad n1 (r q2) fun v8 => dL z m (nat_lit 512) (nat_lit 256) s v8 fun v9 m s => dw3 m (nat_lit 1024) (nat_lit 960) s (fun s q => c (nat_lit 200) [v7, v9] s q) fun v10 m s => cnv .u64 (r q1) fun v11 => dw3 m (nat_lit 8192) (nat_lit 8176) s (fun s q => c (nat_lit 199) [v5, v10, v11] s q) fun v12 m s => dw3 m (nat_lit 16384) (nat_lit 16383) s (fun s q => c n138 [v1, v3, v12] s q) fun v13 m s => K [v13] s) s.next mk0)
 .ret))), [(.tmp q4)], [q0, q1], [q5, q6, q7, q8, q9, q10, q11, q13, q14, q15, q16, q17, q18, q19, q20, q21, q22, q23, q24, q25, q26, q27]⟩
/- attestor/code.isWord -/
noncomputable def cf364 : HF := ⟨
(.seq (.reg [q2, q4] fun c r s K => bxx s (r q0) fun v0 s => K [v0, ff] s)
 (.seq (.reg [q4] fun c r s K => lN s n3 (r q2) fun v0 => c (nat_lit 267) [v0] s fun v1 s => mt v1 (r q1) s fun v2 s => jt v1 (lnS v2) s fun v3 s => jt v1 (lN s n3 (r q2)) s fun v4 s => jn true v1 (fun j => c n141 [v4] s j) s fun v5 s => jt v1 (binK .eql v3 v5) s fun v6 s => pck v1 v6 ff fun v7 => K [v7] s)
 .ret)), [(.tmp q4)], [q0, q1], [q5, q6, q7, q8, q9, q10, q11, q12, q13]⟩
/- attestor/channel.AbsorbCap -/
noncomputable def cf88 : HF := ⟨
(.seq (.reg [q2, q4] fun c r s K => bxx s (r q0) fun v0 s => alc s [zi, zu, zu, zu, zu] fun v1 s => K [v0, v1] s)
 (.seq (.reg [q5] fun c r s K => K [(.sc zn)] s)
 (.seq (.seq (.reg [q8, q9, q10] fun c r s K => lnS (r q1) fun v0 => K [(r q1), v0, I0] s)
 (.block n0 (.loop (.seq (.reg [q11] fun c r s K => binK .lss (r q10) (r q9) fun v0 => K [v0] s)
 (.seq (.cond (.t q11) .skip
 (.exit n0))
 (.seq (.block n1 (.seq (.reg [q7] fun c r s K => ixs n2 (r q8) (r q10) fun v0 => lN s n2 v0 fun v1 => alc s [zu, zu] fun v2 s => sto s n2 v2 v1 fun s => K [v2] s)
 (.reg [q5] fun c r s K => h_op3_sliceA n2 n1 (.c (r q7)) none none none c r s fun v0 s => xA n1 n8 (r q5) v0 c r s fun v1 s => K [v1] s)))
 (.reg [q10] fun c r s K => binK .add (r q10) I1 fun v0 => K [v0] s)))))))
 (.seq (.reg [] fun c r s K => lN s n5 (r q2) fun v0 => c n87 [v0, (r q5)] s fun v1 s => sto s n5 (r q4) v1 fun s => K [] s)
 .ret)))), [(.cellN n5 q4)], [q0, q1], [q12, q13, q14, q15, q16, q17, q18, q19, q20]⟩
/- attestor/tree.Cap -/
noncomputable def cf114 : HF := ⟨
(.seq (.reg [q1, q2] fun c r s K => bxx s (r q0) fun v0 s => K [v0, (.sc zn)] s)
 (.seq (.seq (.reg [q5] fun c r s K => lN s n4 (r q1) fun v0 => c (nat_lit 221) [v0] s fun v1 s => nott v1 fun v2 => K [v2] s)
 (.cond (.t q5) (.seq (.reg [q2] fun c r s K => K [(.sc zn)] s)
 .ret)
 .skip))
 (.seq (.reg [q2] fun c r s K => fad n3 (r q1) fun v0 => ld s v0 fun v1 => fad n3 (r q1) fun v2 => ld s v2 fun v3 => lnS v3 fun v4 => binK .sub v4 I1 fun v5 => ixs n1 v1 v5 fun v6 => ld s v6 fun v7 => c (nat_lit 222) [v7] s fun v8 s => K [v8] s)
 .ret))), [(.tmp q2)], [q0], [q3, q4, q6, q7, q8, q9, q10, q11, q12, q13, q14]⟩
/- attestor/fold.Words -/
noncomputable def cf142 : HF := ⟨
(.seq (.reg [q3, q6, q7] fun c r s K => bxx s (r q0) fun v0 s => K [v0, (.sc zn), I0] s)
 (.seq (.block n0 (.seq (.reg [q16] fun c r s K => lN s n3 (r q3) fun v0 => c (nat_lit 268) [v0, (r q1)] s fun v1 s => nott v1 fun v2 => K [v2] s)
 (.cond (.t q16) (.seq (.reg [q6, q7] fun c r s K => K [(.sc zn), I1] s)
 .ret)
 (.seq (.reg [q21] fun c r s K => lnS (r q2) fun v0 => fad n1 (r q3) fun v1 => ld s v1 fun v2 => c (nat_lit 269) [v2] s fun v3 s => binK .gtr v0 v3 fun v4 => K [v4] s)
 (.cond (.t q21) (.seq (.reg [q6, q7] fun c r s K => K [(.sc zn), I2] s)
 .ret)
 .skip)))))
 (.seq (.reg [q8] fun c r s K => lnS (r q1) fun v0 => xM n1 n8 [zu] v0 v0 c r s fun v1 s => K [v1] s)
 (.seq (.seq (.reg [q31, q32, q33] fun c r s K => lnS (r q1) fun v0 => K [(r q1), v0, I0] s)
 (.block n1 (.loop (.seq (.reg [q34] fun c r s K => binK .lss (r q33) (r q32) fun v0 => K [v0] s)
 (.seq (.cond (.t q34) .skip
 (.exit n1))
 (.seq (.block n2 (.seq (.reg [q9, q10] fun c r s K => ixs n1 (r q31) (r q33) fun v0 => ld s v0 fun v1 => K [(r q33), v1] s)
 (.reg [] fun c r s K => fad n0 (r q3) fun v0 => ld s v0 fun v1 => c (nat_lit 214) [v1, (r q10)] s fun v2 s => ixs n1 (r q8) (r q9) fun v3 => sto s n1 v3 v2 fun s => K [] s)))
 (.reg [q33] fun c r s K => binK .add (r q33) I1 fun v0 => K [v0] s)))))))
 (.seq (.reg [q11] fun c r s K => h_op3_buildS n1 n1 [zn] [(n0, n1, (.c (r q8)))] c r s fun v0 s => alc s [zn] fun v1 s => sto s n1 v1 v0 fun s => K [v1] s)
 (.seq (.reg [q12] fun c r s K => h_op4_makeFunc (nat_lit 270) [(.c (r q3)), (.c (r q11))] c r s fun v0 s => K [v0] s)
 (.seq (.seq (.reg [q49, q50, q51] fun c r s K => lnS (r q2) fun v0 => K [(r q2), v0, I0] s)
 (.block n3 (.loop (.seq (.reg [q52] fun c r s K => binK .lss (r q51) (r q50) fun v0 => K [v0] s)
 (.seq (.cond (.t q52) .skip
 (.exit n3))
 (.seq (.block n4 (.seq (.reg [q14] fun c r s K => ixs n1 (r q49) (r q51) fun v0 => ld s v0 fun v1 => K [v1] s)
 (.seq (.reg [q15] fun c r s K => h_op4_callV (.c (r q12)) [(.c (r q14))] c r s fun v0 s => K [v0] s)
 (.seq (.reg [q59] fun c r s K => binK .neq (r q15) I0 fun v0 => K [v0] s)
 (.cond (.t q59) (.seq (.reg [q6, q7] fun c r s K => K [(.sc zn), (r q15)] s)
 .ret)
 .skip)))))
 (.reg [q51] fun c r s K => binK .add (r q51) I1 fun v0 => K [v0] s)))))))
 (.seq (.reg [q6, q7] fun c r s K => ld s (r q11) fun v0 => K [v0, I0] s)
 .ret)))))))), [(.tmp q6), (.tmp q7)], [q0, q1, q2], [q17, q18, q19, q20, q22, q23, q24, q25, q26, q27, q28, q29, q30, q35, q36, q37, q38, q39, q40, q41, q42, q43, q44, q45, q46, q47, q48, q53, q54, q55, q56, q57, q58, q60, q61, q62]⟩
/- attestor/fold.Words$1 -/
noncomputable def cf270 : HF := ⟨
(.seq (.reg [q4] fun c r s K => K [I0] s)
 (.seq (.drw [q5, q6] fun c r s K => (fun z m => dN z m n1 n0 s n3 (r q1) fun v0 m s => dL z m n2 n0 s (r q2) fun v1 m s => dL z m n4 n0 s (r q2) fun v2 m s => lnS v2 fun v3 => binK .sub v3 I1 fun v4 => ixs n1 v1 v4 fun v5 => dL z m n64 n62 s v5 fun v6 m s => dw3 m (nat_lit 256) (nat_lit 255) s (fun s q => c n145 [v0, v6, (r q0)] s q) fun v7 m s => xE n0 v7 c r s fun v8 s => xE n1 v7 c r s fun v9 s => K [v8, v9] s) s.next mk0)
 (.seq (.seq (.reg [q20] fun c r s K => binK .neq (r q6) I0 fun v0 => K [v0] s)
 (.cond (.t q20) (.seq (.reg [q4] fun c r s K => K [(r q6)] s)
 .ret)
 .skip))
 (.seq (.reg [] fun c r s K => ld s (r q2) fun v0 => h_op3_buildS n1 n1 [zn] [(n0, n1, (.c (r q5)))] c r s fun v1 s => xA n1 n24 v0 v1 c r s fun v2 s => sto s n1 (r q2) v2 fun s => K [] s)
 (.seq (.reg [q6] fun c r s K => lN s n3 (r q1) fun v0 => c (nat_lit 271) [v0] s fun v1 s => xE n0 v1 c r s fun v2 s => xE n1 v1 c r s fun v3 s => sto s n3 (r q1) v2 fun s => K [v3] s)
 (.seq (.reg [q4] fun c r s K => K [(r q6)] s)
 .ret)))))), [(.tmp q4)], [q0, q1, q2], [q8, q9, q10, q11, q12, q13, q14, q15, q16, q7, q17, q18, q19, q21, q22, q23, q24, q25, q27, q28, q26, q29, q30, q31]⟩
/- attestor/prover.Low -/
noncomputable def cf26 : HF := ⟨
(.seq (.reg [q1, q2, q3] fun c r s K => bxx s (r q0) fun v0 s => alc s [zi, zi, zu, zi, zi] fun v1 s => K [v0, v1, I0] s)
 (.seq (.reg [q4, q5] fun c r s K => lN s n14 (r q1) fun v0 => c n78 [v0] s fun v1 s => xE n0 v1 c r s fun v2 s => xE n1 v1 c r s fun v3 s => alc s [zi, zi, zi, zi, zn, zn, zn, zn] fun v4 s => sto s n8 v4 v2 fun s => K [v4, v3] s)
 (.seq (.seq (.reg [q13] fun c r s K => nott (r q5) fun v0 => K [v0] s)
 (.cond (.t q13) (.seq (.reg [q3] fun c r s K => h_op3_build [zi, zi, zu, zi, zi] [] c r s fun v0 s => sto s n5 (r q2) v0 fun s => K [I1] s)
 .ret)
 .skip))
 (.seq (.drw [q6] fun c r s K => (fun z m => fad n0 (r q4) fun v0 => dL z m n2 n1 s v0 fun v1 m s => fad n1 (r q4) fun v2 => dL z m n8 n4 s v2 fun v3 m s => fad n0 (r q1) fun v4 => fad n0 v4 fun v5 => dL z m n64 n48 s v5 fun v6 m s => binK .add v3 v6 fun v7 => fad n0 (r q4) fun v8 => dL z m (nat_lit 512) (nat_lit 256) s v8 fun v9 m s => dw3 m (nat_lit 1024) (nat_lit 768) s (fun s q => c n95 [v9] s q) fun v10 m s => h_op3_build [zi, zi, zu] [(n0, n1, (.c v1)), (n1, n1, (.c v7)), (n2, n1, (.c v10))] c r s fun v11 s => dw1 m (nat_lit 4096) (fun q => alc s [zi, zi, zu] q) fun v12 m s => dS z m (nat_lit 8192) (nat_lit 8191) s n3 v12 v11 fun _ m s => K [v12] s) s.next mk0)
 (.seq (.reg [q3] fun c r s K => lN s n3 (r q6) fun v0 => fad n1 (r q4) fun v1 => ld s v1 fun v2 => fad n0 (r q1) fun v3 => fad n1 v3 fun v4 => ld s v4 fun v5 => h_op3_build [zi, zi, zu, zi, zi] [(n0, n3, (.c v0)), (n3, n1, (.c v2)), (n4, n1, (.c v5))] c r s fun v6 s => sto s n5 (r q2) v6 fun s => K [I0] s)
 .ret))))), [(.cellN n5 q2), (.tmp q3)], [q0], [q8, q9, q7, q10, q11, q12, q14, q15, q16, q17, q18, q19, q20, q21, q22, q23, q24, q25, q26, q27, q28, q29, q30, q31, q32, q33]⟩
/- attestor/prover.checked -/
noncomputable def cf78 : HF := ⟨
(.seq (.reg [q1, q2, q3] fun c r s K => bxx s (r q0) fun v0 s => alc s [zi, zi, zi, zi, zn, zn, zn, zn] fun v1 s => K [v0, v1, ff] s)
 (.seq (.reg [q4, q5] fun c r s K => lN s n14 (r q1) fun v0 => c (nat_lit 177) [v0] s fun v1 s => xE n0 v1 c r s fun v2 s => xE n1 v1 c r s fun v3 s => alc s [zi, zi, zi, zi, zn, zn, zn, zn] fun v4 s => sto s n8 v4 v2 fun s => K [v4, v3] s)
 (.seq (.seq (.reg [q22] fun c r s K => nott (r q5) fun v0 => jf v0 (lN s n8 (r q4)) s fun v1 s => jf v0 (fad n0 (r q1)) s fun v2 s => jf v0 (lN s n4 v2) s fun v3 s => jn false v0 (fun j => c n12 [v1, v3] s j) s fun v4 s => jf v0 (nott v4) s fun v5 s => pck v0 tt v5 fun v6 => K [v6] s)
 (.cond (.t q22) (.seq (.reg [q3] fun c r s K => h_op3_build [zi, zi, zi, zi, zn, zn, zn, zn] [] c r s fun v0 s => sto s n8 (r q2) v0 fun s => K [ff] s)
 .ret)
 .skip))
 (.seq (.reg [q6] fun c r s K => K [I0] s)
 (.seq (.seq (.reg [q26] fun c r s K => fad n12 (r q1) fun v0 => ld s v0 fun v1 => binK .gtr v1 I0 fun v2 => K [v2] s)
 (.cond (.t q26) (.reg [q6] fun c r s K => fad n0 (r q1) fun v0 => fad n1 v0 fun v1 => ld s v1 fun v2 => fad n1 (r q4) fun v3 => ld s v3 fun v4 => fad n0 (r q1) fun v5 => fad n0 v5 fun v6 => ld s v6 fun v7 => binK .add v4 v7 fun v8 => h_op4_minmax false [(.c v2), (.c v8)] c r s fun v9 s => xS true I1 v9 c r s fun v10 s => K [v10] s)
 .skip))
 (.seq (.reg [q7] fun c r s K => fad n0 (r q4) fun v0 => ld s v0 fun v1 => c n85 [v1] s fun v2 s => alc s [zu] fun v3 s => sto s n1 v3 v2 fun s => K [v3] s)
 (.seq (.reg [q8] fun c r s K => h_op4_makeFunc (nat_lit 178) [(.c (r q7))] c r s fun v0 s => K [v0] s)
 (.seq (.drw [q3] fun c r s K => (fun z m => dN z m n1 n0 s n8 (r q4) fun v0 m s => fad n13 (r q1) fun v1 => dL z m n4 n2 s v1 fun v2 m s => lnS v2 fun v3 => binK .eql v3 (r q6) fun v4 => jnD true v4 (fun jj => fad n13 (r q1) fun v => jj v m s) m s fun v5 m s => jnD true v4 (fun jj => dL z m (nat_lit 256) (nat_lit 254) s v5 jj) m s fun v6 m s => jnD true v4 (fun jj => jj (r q8) m s) m s fun v7 m s => jnD true v4 (fun jj => dw3 m (nat_lit 1024) (nat_lit 1022) s (fun s q => c (nat_lit 179) [v6, v7] s q) jj) m s fun v8 m s => jnD true v4 (fun jj => nott v8 fun v => jj v m s) m s fun v9 m s => pck v4 v9 ff fun v10 => dS z m (nat_lit 8192) (nat_lit 2047) s n8 (r q2) v0 fun _ m s => K [v10] s) s.next mk0)
 .ret)))))))), [(.cellN n8 q2), (.tmp q3)], [q0], [q10, q11, q9, q12, q13, q14, q15, q16, q17, q18, q19, q20, q21, q23, q24, q25, q27, q28, q29, q30, q31, q32, q33, q34, q35, q36, q37, q38, q39, q40, q41, q42, q43, q44, q45, q46, q47, q48, q49, q50, q51, q52, q53, q54]⟩
/- attestor/prover.checked$1 -/
noncomputable def cf178 : HF := ⟨
(.seq (.reg [q2, q3] fun c r s K => bxx s (r q0) fun v0 s => K [v0, ff] s)
 (.seq (.reg [q3] fun c r s K => ixA n2 n1 (r q2) I0 fun v0 => ld s v0 fun v1 => ixA n2 n1 (r q2) I1 fun v2 => ld s v2 fun v3 => h_op4_minmax true [(.c v1), (.c v3)] c r s fun v4 s => ld s (r q1) fun v5 => binK .geq v4 v5 fun v6 => K [v6] s)
 .ret)), [(.tmp q3)], [q0, q1], [q4, q5, q6, q7, q8, q9, q10]⟩
/- attestor/prover.filled -/
noncomputable def cf177 : HF := ⟨
(.seq (.reg [q1, q2, q3] fun c r s K => bxx s (r q0) fun v0 s => alc s [zi, zi, zi, zi, zn, zn, zn, zn] fun v1 s => K [v0, v1, ff] s)
 (.seq (.reg [q4] fun c r s K => fad n4 (r q1) fun v0 => lN s n8 v0 fun v1 => alc s [zi, zi, zi, zi, zn, zn, zn, zn] fun v2 s => sto s n8 v2 v1 fun s => K [v2] s)
 (.seq (.seq (.reg [q31] fun c r s K => fad n12 (r q1) fun v0 => ld s v0 fun v1 => binK .lss v1 I0 fun v2 => jf v2 (fad n12 (r q1)) s fun v3 s => jf v2 (ld s v3) s fun v4 s => jf v2 (binK .gtr v4 (i6 n64)) s fun v5 s => pck v2 tt v5 fun v6 => jf v6 (fad n4 (r q4)) s fun v7 s => jf v6 (ld s v7) s fun v8 s => jf v6 (lnS v8) s fun v9 s => jf v6 (binK .gtr v9 I0) s fun v10 s => pck v6 tt v10 fun v11 => jf v11 (fad n1 (r q4)) s fun v12 s => jf v11 (ld s v12) s fun v13 s => jf v11 (binK .lss v13 I1) s fun v14 s => pck v11 tt v14 fun v15 => jf v15 (fad n1 (r q4)) s fun v16 s => jf v15 (ld s v16) s fun v17 s => jf v15 (binK .gtr v17 I13) s fun v18 s => pck v15 tt v18 fun v19 => K [v19] s)
 (.cond (.t q31) (.seq (.reg [q3] fun c r s K => h_op3_build [zi, zi, zi, zi, zn, zn, zn, zn] [] c r s fun v0 s => sto s n8 (r q2) v0 fun s => K [ff] s)
 .ret)
 .skip))
 (.seq (.reg [q5] fun c r s K => fad n1 (r q4) fun v0 => ld s v0 fun v1 => xS true I1 v1 c r s fun v2 s => xM n1 n8 [zu] v2 v2 c r s fun v3 s => K [v3] s)
 (.seq (.reg [] fun c r s K => h_op3_buildS n1 n1 [zn] [(n0, n1, (.c (r q5)))] c r s fun v0 s => fad n12 (r q1) fun v1 => ld s v1 fun v2 => c (nat_lit 302) [v0, v2] s fun v3 s => fad n4 (r q4) fun v4 => sto s n1 v4 v3 fun s => K [] s)
 (.seq (.reg [q3] fun c r s K => lN s n8 (r q4) fun v0 => sto s n8 (r q2) v0 fun s => K [tt] s)
 .ret)))))), [(.cellN n8 q2), (.tmp q3)], [q0], [q6, q7, q8, q9, q10, q11, q12, q13, q14, q15, q16, q17, q18, q19, q20, q21, q22, q23, q24, q25, q26, q27, q28, q29, q30, q32, q33, q34, q35, q36, q37, q38, q39, q40, q41, q42, q43]⟩
/- slices.Repeat[[][]uint64,[]uint64] -/
noncomputable def cf302 : HF := ⟨
(.seq (.reg [q4] fun c r s K => K [(.sc zn)] s)
 (.seq (.seq (.reg [q10] fun c r s K => binK .lss (r q1) I0 fun v0 => K [v0] s)
 (.cond (.t q10) (.reg [] fun c r s K => h_op4_iface n9 (.c (.sc (.lit (.string ⟨#[99, 97, 110, 110, 111, 116, 32, 98, 101, 32, 110, 101, 103, 97, 116, 105, 118, 101]⟩)))) c r s fun v0 s => h_op4_bad n102 c r s fun _ s => K [] s)
 .skip))
 (.seq (.reg [q5, q6] fun c r s K => lnS (r q0) fun v0 => cnv .u64 v0 fun v1 => cnv .u64 (r q1) fun v2 => c (nat_lit 376) [v1, v2] s fun v3 s => xE n0 v3 c r s fun v4 s => xE n1 v3 c r s fun v5 s => K [v4, v5] s)
 (.seq (.seq (.reg [q26] fun c r s K => binK .gtr (r q5) U0 fun v0 => mf v0 (r q6) s fun v1 s => jf v0 (binK .gtr v1 (u6 (nat_lit 9223372036854775807))) s fun v2 s => pck v0 tt v2 fun v3 => K [v3] s)
 (.cond (.t q26) (.reg [] fun c r s K => h_op4_iface n9 (.c (.sc (.lit (.string ⟨#[116, 104, 101, 32, 114, 101, 115, 117, 108, 116, 32, 111, 102, 32, 40, 108, 101, 110, 40, 120, 41, 32, 42, 32, 99, 111, 117, 110, 116, 41, 32, 111, 118, 101, 114, 102, 108, 111, 119, 115]⟩)))) c r s fun v0 s => h_op4_bad n102 c r s fun _ s => K [] s)
 .skip))
 (.seq (.reg [q7] fun c r s K => cnv .i64 (r q6) fun v0 => xM n1 n24 [zn] v0 v0 c r s fun v1 s => K [v1] s)
 (.seq (.reg [q8] fun c r s K => h_op3_copy n1 (.c (r q7)) (.c (r q0)) c r s fun v0 s => K [v0] s)
 (.seq (.block n0 (.loop (.seq (.seq (.reg [q37] fun c r s K => lnS (r q7) fun v0 => binK .lss (r q8) v0 fun v1 => K [v1] s)
 (.cond (.t q37) .skip
 (.exit n0)))
 (.block n1 (.drw [q8] fun c r s K => (fun z m => h_op3_sliceS n1 (.c (r q7)) (some (.c (r q8))) none none c r s fun v0 s => h_op3_sliceS n1 (.c (r q7)) none (some (.c (r q8))) none c r s fun v1 s => dw5 z m n128 n126 s (.more (.more (.copy n1 (.c v0) (.c v1)))) r (fun s q => h_op3_copy n1 (.c v0) (.c v1) c r s q) fun v2 m s => binK .add (r q8) v2 fun v3 => K [v3] s) s.next mk0)))))
 (.seq (.reg [q4] fun c r s K => K [(r q7)] s)
 .ret)))))))), [(.tmp q4)], [q0, q1], [q9, q11, q13, q14, q15, q16, q17, q18, q12, q19, q20, q21, q22, q23, q24, q25, q27, q28, q29, q30, q31, q32, q33, q34, q35, q36, q38, q39, q40, q41, q42, q43, q44, q45, q46, q47]⟩
/- math/bits.Mul -/
noncomputable def cf376 : HF := ⟨
(.seq (.reg [q4, q5] fun c r s K => K [U0, U0] s)
 (.seq (.cond (.c (.sc (.bool false))) (.seq (.reg [q6, q7] fun c r s K => cnv .u32 (r q0) fun v0 => cnv .u32 (r q1) fun v1 => c (nat_lit 400) [v0, v1] s fun v2 s => xE n0 v2 c r s fun v3 s => xE n1 v2 c r s fun v4 s => K [v3, v4] s)
 (.seq (.reg [q4, q5] fun c r s K => cnv .u64 (r q6) fun v0 => cnv .u64 (r q7) fun v1 => K [v0, v1] s)
 .ret))
 .skip)
 (.seq (.reg [q8, q9] fun c r s K => c (nat_lit 401) [(r q0), (r q1)] s fun v0 s => xE n0 v0 c r s fun v1 s => xE n1 v0 c r s fun v2 s => K [v1, v2] s)
 (.seq (.reg [q4, q5] fun c r s K => K [(r q8), (r q9)] s)
 .ret)))), [(.tmp q4), (.tmp q5)], [q0, q1], [q11, q12, q13, q14, q15, q10, q16, q17, q18, q19, q20, q21, q23, q24, q25, q22, q26, q27, q28, q29]⟩
/- math/bits.Mul64 -/
noncomputable def cf401 : HF := ⟨
(.seq (.reg [q4, q5] fun c r s K => K [U0, U0] s)
 (.seq (.reg [q6] fun c r s K => binK .and (r q0) (u6 (nat_lit 4294967295)) fun v0 => K [v0] s)
 (.seq (.reg [q7] fun c r s K => xS false (r q0) U32 c r s fun v0 s => K [v0] s)
 (.seq (.reg [q8] fun c r s K => binK .and (r q1) (u6 (nat_lit 4294967295)) fun v0 => K [v0] s)
 (.seq (.reg [q9] fun c r s K => xS false (r q1) U32 c r s fun v0 s => K [v0] s)
 (.seq (.reg [q10] fun c r s K => binK .mul (r q6) (r q8) fun v0 => K [v0] s)
 (.seq (.reg [q11] fun c r s K => binK .mul (r q7) (r q8) fun v0 => xS false (r q10) U32 c r s fun v1 s => binK .add v0 v1 fun v2 => K [v2] s)
 (.seq (.reg [q12] fun c r s K => binK .and (r q11) (u6 (nat_lit 4294967295)) fun v0 => K [v0] s)
 (.seq (.reg [q13] fun c r s K => xS false (r q11) U32 c r s fun v0 s => K [v0] s)
 (.seq (.reg [q12] fun c r s K => binK .mul (r q6) (r q9) fun v0 => binK .add (r q12) v0 fun v1 => K [v1] s)
 (.seq (.reg [q4] fun c r s K => binK .mul (r q7) (r q9) fun v0 => binK .add v0 (r q13) fun v1 => xS false (r q12) U32 c r s fun v2 s => binK .add v1 v2 fun v3 => K [v3] s)
 (.seq (.reg [q5] fun c r s K => binK .mul (r q0) (r q1) fun v0 => K [v0] s)
 .ret)))))))))))), [(.tmp q4), (.tmp q5)], [q0, q1], [q14, q15, q16, q17, q18, q19, q20, q21, q22, q23, q24, q25, q26, q27, q28, q29, q30, q31, q32, q33, q34, q35, q36, q37, q38, q39, q40, q41, q42, q43, q44, q45, q46, q47, q48, q49, q50]⟩
/- math/bits.Mul32 -/
noncomputable def cf400 : HF := ⟨
(.seq (.reg [q4, q5] fun c r s K => (fun v0 => (fun v1 => K [v0, v1] s) (.sc (.int .u32 (.ofNat n0)))) (.sc (.int .u32 (.ofNat n0))))
 (.seq (.reg [q6] fun c r s K => cnv .u64 (r q0) fun v0 => cnv .u64 (r q1) fun v1 => binK .mul v0 v1 fun v2 => K [v2] s)
 (.seq (.reg [q4, q5] fun c r s K => xS false (r q6) U32 c r s fun v0 s => cnv .u32 v0 fun v1 => cnv .u32 (r q6) fun v2 => K [v1, v2] s)
 .ret))), [(.tmp q4), (.tmp q5)], [q0, q1], [q7, q8, q9, q10, q11, q12, q13, q14, q15, q16]⟩
/- attestor/prover.combine -/
noncomputable def cf54 : HF := ⟨
(.seq (.reg [q3, q5, q6] fun c r s K => bxx s (r q0) fun v0 s => bxx s (r q2) fun v1 s => K [v0, v1, (.sc zn)] s)
 (.seq (.reg [q7] fun c r s K => ixs n1 (r q1) I0 fun v0 => ld s v0 fun v1 => lnS v1 fun v2 => xM n1 n8 [zu] v2 v2 c r s fun v3 s => alc s [zn] fun v4 s => sto s n1 v4 v3 fun s => K [v4] s)
 (.seq (.seq (.reg [q17] fun c r s K => c n136 [(r q1)] s fun v0 s => K [v0] s)
 (.block n0 (.rng n54 n0 (.t q17) [q18, q19] (.reg [q9] fun c r s K => K [(r q19)] s)
 (.block n1 (.seq (.reg [q21, q22] fun c r s K => ld s (r q7) fun v0 => lnS v0 fun v1 => K [v1, I0] s)
 (.block n2 (.loop (.seq (.reg [q23] fun c r s K => binK .lss (r q22) (r q21) fun v0 => K [v0] s)
 (.seq (.cond (.t q23) .skip
 (.exit n2))
 (.seq (.block n3 (.seq (.reg [q10] fun c r s K => K [(r q22)] s)
 (.drw [] fun c r s K => (fun z m => dL z m n1 n0 s (r q7) fun v0 m s => dL z m n4 n0 s (r q3) fun v1 m s => dL z m n8 n0 s (r q3) fun v2 m s => dL z m n16 n0 s (r q7) fun v3 m s => ixs n1 v3 (r q10) fun v4 => dL z m n128 n112 s v4 fun v5 m s => dL z m (nat_lit 256) n0 s (r q5) fun v6 m s => dw3 m (nat_lit 512) (nat_lit 504) s (fun s q => c n138 [v2, v5, v6] s q) fun v7 m s => ixs n1 (r q9) (r q10) fun v8 => dL z m (nat_lit 8192) (nat_lit 7168) s v8 fun v9 m s => dw3 m (nat_lit 16384) (nat_lit 16380) s (fun s q => c n137 [v1, v7, v9] s q) fun v10 m s => ixs n1 v0 (r q10) fun v11 => dS z m (nat_lit 65536) (nat_lit 65535) s n1 v11 v10 fun _ m s => K [] s) s.next mk0)))
 (.reg [q22] fun c r s K => binK .add (r q22) I1 fun v0 => K [v0] s)))))))))))
 (.seq (.reg [q6] fun c r s K => ld s (r q7) fun v0 => K [v0] s)
 .ret)))), [(.tmp q6)], [q0, q1, q2], [q11, q12, q13, q14, q15, q16, q20, q24, q25, q26, q27, q28, q29, q30, q31, q32, q33, q34, q35, q36, q37, q38, q39, q40, q41, q42]⟩
/- slices.Backward[[][]uint64,[]uint64] -/
noncomputable def cf136 : HF := ⟨
(.seq (.reg [q1, q2] fun c r s K => bxx s (r q0) fun v0 s => K [v0, (.sc (.lit .nilFunc))] s)
 (.seq (.reg [q2] fun c r s K => h_op4_makeFunc (nat_lit 266) [(.c (r q1))] c r s fun v0 s => K [v0] s)
 .ret)), [(.tmp q2)], [q0], [q3]⟩
/- slices.Backward[[][]uint64,[]uint64]$1 -/
noncomputable def cf266 : HF := ⟨
(.seq (.reg [q3] fun c r s K => ld s (r q1) fun v0 => lnS v0 fun v1 => binK .sub v1 I1 fun v2 => K [v2] s)
 (.block n0 (.loop (.seq (.seq (.reg [q8] fun c r s K => binK .geq (r q3) I0 fun v0 => K [v0] s)
 (.cond (.t q8) .skip
 (.exit n0)))
 (.seq (.block n1 (.seq (.reg [q18] fun c r s K => ld s (r q1) fun v0 => ixs n1 v0 (r q3) fun v1 => ld s v1 fun v2 => h_op4_callV (.c (r q0)) [(.c (r q3)), (.c v2)] c r s fun v3 s => nott v3 fun v4 => K [v4] s)
 (.cond (.t q18) .ret
 .skip)))
 (.reg [q3] fun c r s K => binK .sub (r q3) I1 fun v0 => K [v0] s)))))), [], [q0, q1], [q4, q5, q6, q7, q11, q12, q13, q14, q15, q16, q17, q9, q10]⟩
/- slices.Concat[[][]uint64,[]uint64] -/
noncomputable def cf55 : HF := ⟨
(.seq (.reg [q2] fun c r s K => K [(.sc zn)] s)
 (.seq (.reg [q3] fun c r s K => K [I0] s)
 (.seq (.seq (.reg [q9, q10, q11] fun c r s K => lnS (r q0) fun v0 => K [(r q0), v0, I0] s)
 (.block n0 (.loop (.seq (.reg [q12] fun c r s K => binK .lss (r q11) (r q10) fun v0 => K [v0] s)
 (.seq (.cond (.t q12) .skip
 (.exit n0))
 (.seq (.block n1 (.seq (.reg [q5] fun c r s K => ixs n1 (r q9) (r q11) fun v0 => ld s v0 fun v1 => K [v1] s)
 (.seq (.reg [q3] fun c r s K => lnS (r q5) fun v0 => binK .add (r q3) v0 fun v1 => K [v1] s)
 (.seq (.reg [q20] fun c r s K => binK .lss (r q3) I0 fun v0 => K [v0] s)
 (.cond (.t q20) (.reg [] fun c r s K => h_op4_iface n9 (.c (.sc (.lit (.string ⟨#[108, 101, 110, 32, 111, 117, 116, 32, 111, 102, 32, 114, 97, 110, 103, 101]⟩)))) c r s fun v0 s => h_op4_bad n102 c r s fun _ s => K [] s)
 .skip)))))
 (.reg [q11] fun c r s K => binK .add (r q11) I1 fun v0 => K [v0] s)))))))
 (.seq (.reg [q6] fun c r s K => c n139 [(.sc zn), (r q3)] s fun v0 s => K [v0] s)
 (.seq (.seq (.reg [q25, q26, q27] fun c r s K => lnS (r q0) fun v0 => K [(r q0), v0, I0] s)
 (.block n2 (.loop (.seq (.reg [q28] fun c r s K => binK .lss (r q27) (r q26) fun v0 => K [v0] s)
 (.seq (.cond (.t q28) .skip
 (.exit n2))
 (.seq (.block n3 (.seq (.reg [q8] fun c r s K => ixs n1 (r q25) (r q27) fun v0 => ld s v0 fun v1 => K [v1] s)
 (.reg [q6] fun c r s K => xA n1 n24 (r q6) (r q8) c r s fun v0 s => K [v0] s)))
 (.reg [q27] fun c r s K => binK .add (r q27) I1 fun v0 => K [v0] s)))))))
 (.seq (.reg [q2] fun c r s K => K [(r q6)] s)
 .ret)))))), [(.tmp q2)], [q0], [q13, q14, q15, q16, q17, q18, q19, q21, q22, q23, q24, q29, q30, q31, q32, q33, q34, q35]⟩
/- slices.Grow[[][]uint64,[]uint64] -/
noncomputable def cf139 : HF := ⟨
(.seq (.reg [q4] fun c r s K => K [(.sc zn)] s)
 (.seq (.seq (.reg [q6] fun c r s K => binK .lss (r q1) I0 fun v0 => K [v0] s)
 (.cond (.t q6) (.reg [] fun c r s K => h_op4_iface n9 (.c (.sc (.lit (.string ⟨#[99, 97, 110, 110, 111, 116, 32, 98, 101, 32, 110, 101, 103, 97, 116, 105, 118, 101]⟩)))) c r s fun v0 s => h_op4_bad n102 c r s fun _ s => K [] s)
 .skip))
 (.seq (.seq (.reg [q1] fun c r s K => h_op4_capOf (.c (r q0)) c r s fun v0 s => lnS (r q0) fun v1 => binK .sub v0 v1 fun v2 => binK .sub (r q1) v2 fun v3 => K [v3] s)
 (.seq (.reg [q16] fun c r s K => binK .gtr (r q1) I0 fun v0 => K [v0] s)
 (.cond (.t q16) (.reg [q0] fun c r s K => h_op4_capOf (.c (r q0)) c r s fun v0 s => h_op3_sliceS n1 (.c (r q0)) none (some (.c v0)) none c r s fun v1 s => h_op3_appendZ n1 n24 [zn] (.c v1) (.c (r q1)) c r s fun v2 s => lnS (r q0) fun v3 => h_op3_sliceS n1 (.c v2) none (some (.c v3)) none c r s fun v4 s => K [v4] s)
 .skip)))
 (.seq (.reg [q4] fun c r s K => K [(r q0)] s)
 .ret)))), [(.tmp q4)], [q0, q1], [q5, q7, q8, q9, q10, q11, q12, q13, q14, q15, q17, q18, q19, q20, q21, q22, q23, q24, q25, q26]⟩
/- attestor/compose.Columns -/
noncomputable def cf52 : HF := ⟨
(.seq (.reg [q3, q4, q6, q7] fun c r s K => bxx s (r q0) fun v0 s => bxx s (r q1) fun v1 s => K [v0, v1, (.sc zn), I0] s)
 (.seq (.seq (.reg [q22] fun c r s K => lN s n8 (r q3) fun v0 => lN s n6 (r q4) fun v1 => c n131 [v0, v1, (r q2)] s fun v2 s => nott v2 fun v3 => K [v3] s)
 (.cond (.t q22) (.seq (.reg [q6, q7] fun c r s K => K [(.sc zn), I1] s)
 .ret)
 .skip))
 (.seq (.drw [q8, q9] fun c r s K => (fun z m => fad n0 (r q3) fun v0 => dL z m n2 n1 s v0 fun v1 m s => fad n0 (r q3) fun v2 => dL z m n8 n4 s v2 fun v3 m s => dw3 m n16 n12 s (fun s q => c n95 [v3] s q) fun v4 m s => K [v1, v4] s) s.next mk0)
 (.seq (.reg [q10, q11] fun c r s K => lN s n8 (r q3) fun v0 => lN s n6 (r q4) fun v1 => c n132 [v0, v1, (r q2)] s fun v2 s => c n112 [(r q8), (r q9), v2] s fun v3 s => xE n0 v3 c r s fun v4 s => xE n1 v3 c r s fun v5 s => K [v4, v5] s)
 (.seq (.seq (.reg [q39] fun c r s K => binK .neq (r q11) I0 fun v0 => K [v0] s)
 (.cond (.t q39) (.seq (.reg [q6, q7] fun c r s K => K [(.sc zn), (r q11)] s)
 .ret)
 .skip))
 (.seq (.drw [q12, q13] fun c r s K => (fun z m => fad n1 (r q3) fun v0 => dL z m n2 n1 s v0 fun v1 m s => xS true I1 v1 c r s fun v2 s => dN z m n8 n0 s n8 (r q3) fun v3 m s => dw3 m n16 n8 s (fun s q => c n80 [v3] s q) fun v4 m s => K [v2, v4] s) s.next mk0)
 (.seq (.seq (.reg [q51] fun c r s K => binK .mul (r q13) (r q12) fun v0 => h_op3_sliceS n1 (.c (r q10)) (some (.c v0)) none none c r s fun v1 s => c n133 [v1, (.sc (.fn n134))] s fun v2 s => K [v2] s)
 (.cond (.t q51) (.seq (.reg [q6, q7] fun c r s K => K [(.sc zn), I7] s)
 .ret)
 .skip))
 (.seq (.reg [q14] fun c r s K => K [(.sc zn)] s)
 (.seq (.seq (.reg [q52, q53] fun c r s K => K [(r q13), I0] s)
 (.block n0 (.loop (.seq (.reg [q54] fun c r s K => binK .lss (r q53) (r q52) fun v0 => K [v0] s)
 (.seq (.cond (.t q54) .skip
 (.exit n0))
 (.seq (.block n1 (.seq (.reg [q15] fun c r s K => K [(r q53)] s)
 (.seq (.drw [q16, q17] fun c r s K => (fun z m => fad n1 (r q3) fun v0 => dL z m n4 n2 s v0 fun v1 m s => fad n0 (r q4) fun v2 => dL z m n16 n8 s v2 fun v3 m s => binK .add v1 v3 fun v4 => binK .mul (r q15) (r q12) fun v5 => binK .add (r q15) I1 fun v6 => binK .mul v6 (r q12) fun v7 => h_op3_sliceS n1 (.c (r q10)) (some (.c v5)) (some (.c v7)) none c r s fun v8 s => dw3 m (nat_lit 65536) (nat_lit 65535) s (fun s q => c n113 [(r q8), v4, (r q9), v8] s q) fun v9 m s => xE n0 v9 c r s fun v10 s => xE n1 v9 c r s fun v11 s => K [v10, v11] s) s.next mk0)
 (.seq (.seq (.reg [q77] fun c r s K => binK .neq (r q17) I0 fun v0 => K [v0] s)
 (.cond (.t q77) (.seq (.reg [q6, q7] fun c r s K => K [(.sc zn), (r q17)] s)
 .ret)
 .skip))
 (.reg [q14] fun c r s K => h_op3_buildS n1 n1 [zn] [(n0, n1, (.c (r q16)))] c r s fun v0 s => xA n1 n24 (r q14) v0 c r s fun v1 s => K [v1] s)))))
 (.reg [q53] fun c r s K => binK .add (r q53) I1 fun v0 => K [v0] s)))))))
 (.seq (.reg [q6, q7] fun c r s K => K [(r q14), I0] s)
 .ret)))))))))), [(.tmp q6), (.tmp q7)], [q0, q1, q2], [q18, q19, q20, q21, q23, q24, q25, q26, q27, q29, q30, q31, q32, q33, q34, q35, q28, q36, q37, q38, q40, q41, q42, q43, q44, q45, q46, q47, q48, q49, q50, q55, q57, q58, q59, q60, q61, q62, q63, q64, q65, q66, q67, q68, q69, q70, q71, q72, q73, q56, q74, q75, q76, q78, q79, q80, q81, q82, q83, q84]⟩
/- attestor/transform.Values -/
noncomputable def cf113 : HF := ⟨
(.seq (.reg [q8, q9] fun c r s K => K [(.sc zn), I0] s)
 (.seq (.block n0 (.seq (.reg [q12] fun c r s K => c (nat_lit 214) [(r q0), (r q2)] s fun v0 s => binK .eql v0 U0 fun v1 => K [v1] s)
 (.cond (.t q12) (.seq (.reg [q8, q9] fun c r s K => K [(.sc zn), I1] s)
 .ret)
 (.seq (.reg [q17] fun c r s K => binK .lss (r q1) I0 fun v0 => mf v0 (r q1) s fun v1 s => mf v0 (r q0) s fun v2 s => jn false v0 (fun j => c (nat_lit 219) [v2] s j) s fun v3 s => jf v0 (binK .gtr v1 v3) s fun v4 s => pck v0 tt v4 fun v5 => K [v5] s)
 (.cond (.t q17) (.seq (.reg [q8, q9] fun c r s K => K [(.sc zn), I2] s)
 .ret)
 .skip)))))
 (.seq (.reg [q3] fun c r s K => c (nat_lit 220) [(r q0), (r q3), (r q2)] s fun v0 s => K [v0] s)
 (.seq (.seq (.reg [q34] fun c r s K => lnS (r q3) fun v0 => xS true I1 (r q1) c r s fun v1 s => binK .gtr v0 v1 fun v2 => K [v2] s)
 (.cond (.t q34) (.seq (.reg [q8, q9] fun c r s K => K [(.sc zn), I3] s)
 .ret)
 .skip))
 (.seq (.reg [q10] fun c r s K => xS true I1 (r q1) c r s fun v0 s => xM n1 n8 [zu] v0 v0 c r s fun v1 s => K [v1] s)
 (.seq (.reg [] fun c r s K => h_op3_copy n1 (.c (r q10)) (.c (r q3)) c r s fun v0 s => K [] s)
 (.seq (.reg [q11] fun c r s K => c (nat_lit 216) [(r q0), (r q10)] s fun v0 s => K [v0] s)
 (.seq (.reg [] fun c r s K => c (nat_lit 200) [(r q0), (r q1)] s fun v0 s => c (nat_lit 217) [(r q0), (r q11), v0] s fun v1 s => K [] s)
 (.seq (.reg [q8, q9] fun c r s K => K [(r q11), I0] s)
 .ret))))))))), [(.tmp q8), (.tmp q9)], [q0, q1, q2, q3], [q13, q14, q15, q16, q18, q19, q20, q21, q22, q23, q24, q25, q26, q27, q28, q29, q30, q31, q32, q33, q35, q36, q37, q38, q39, q40, q41, q42, q43, q44, q45, q46, q47, q48, q49, q50]⟩
/- attestor/poly.Shift -/
noncomputable def cf220 : HF := ⟨
(.seq (.reg [q6] fun c r s K => K [(.sc zn)] s)
 (.seq (.reg [q7] fun c r s K => lnS (r q1) fun v0 => xM n1 n8 [zu] v0 v0 c r s fun v1 s => K [v1] s)
 (.seq (.reg [q8] fun c r s K => K [U1] s)
 (.seq (.seq (.reg [q14, q15, q16] fun c r s K => lnS (r q1) fun v0 => K [(r q1), v0, I0] s)
 (.block n0 (.loop (.seq (.reg [q17] fun c r s K => binK .lss (r q16) (r q15) fun v0 => K [v0] s)
 (.seq (.cond (.t q17) .skip
 (.exit n0))
 (.seq (.block n1 (.seq (.reg [q9, q10] fun c r s K => ixs n1 (r q14) (r q16) fun v0 => ld s v0 fun v1 => K [(r q16), v1] s)
 (.seq (.reg [] fun c r s K => c n138 [(r q0), (r q10), (r q8)] s fun v0 s => ixs n1 (r q7) (r q9) fun v1 => sto s n1 v1 v0 fun s => K [] s)
 (.reg [q8] fun c r s K => c n138 [(r q0), (r q8), (r q2)] s fun v0 s => K [v0] s))))
 (.reg [q16] fun c r s K => binK .add (r q16) I1 fun v0 => K [v0] s)))))))
 (.seq (.reg [q6] fun c r s K => c (nat_lit 347) [(r q7)] s fun v0 s => K [v0] s)
 .ret))))), [(.tmp q6)], [q0, q1, q2], [q11, q12, q13, q18, q19, q20, q21, q22, q23, q24, q25, q26, q27, q28, q29, q30, q31, q32, q33, q34]⟩
/- attestor/poly.trim -/
noncomputable def cf347 : HF := ⟨
(.seq (.reg [q2] fun c r s K => K [(.sc zn)] s)
 (.seq (.reg [q3] fun c r s K => lnS (r q0) fun v0 => K [v0] s)
 (.seq (.block n0 (.loop (.seq (.seq (.reg [q15] fun c r s K => binK .gtr (r q3) I0 fun v0 => mt v0 (r q0) s fun v1 s => mt v0 (r q3) s fun v2 s => jt v0 (binK .sub v2 I1) s fun v3 s => jt v0 (ixs n1 v1 v3) s fun v4 s => jt v0 (ld s v4) s fun v5 s => jt v0 (binK .eql v5 U0) s fun v6 s => pck v0 v6 ff fun v7 => K [v7] s)
 (.cond (.t q15) .skip
 (.exit n0)))
 (.block n1 (.reg [q3] fun c r s K => binK .sub (r q3) I1 fun v0 => K [v0] s)))))
 (.seq (.reg [q2] fun c r s K => h_op3_sliceS n1 (.c (r q0)) none (some (.c (r q3))) none c r s fun v0 s => K [v0] s)
 .ret)))), [(.tmp q2)], [q0], [q4, q5, q6, q7, q8, q9, q10, q11, q12, q13, q14, q16, q17, q18, q19, q20]⟩
/- attestor/compose.Columns$1 -/
noncomputable def cf134 : HF := ⟨
(.seq (.reg [q2] fun c r s K => K [ff] s)
 (.seq (.reg [q2] fun c r s K => binK .neq (r q0) U0 fun v0 => K [v0] s)
 .ret)), [(.tmp q2)], [q0], [q3, q4]⟩
/- slices.ContainsFunc[[]uint64,uint64] -/
noncomputable def cf133 : HF := ⟨
(.seq (.reg [q4] fun c r s K => K [ff] s)
 (.seq (.reg [q4] fun c r s K => c (nat_lit 265) [(r q0), (r q1)] s fun v0 s => binK .geq v0 I0 fun v1 => K [v1] s)
 .ret)), [(.tmp q4)], [q0, q1], [q5, q6, q7, q8]⟩
/- slices.IndexFunc[[]uint64,uint64] -/
noncomputable def cf265 : HF := ⟨
(.seq (.reg [q4] fun c r s K => K [I0] s)
 (.seq (.seq (.reg [q7, q8] fun c r s K => lnS (r q0) fun v0 => K [v0, I0] s)
 (.block n0 (.loop (.seq (.reg [q9] fun c r s K => binK .lss (r q8) (r q7) fun v0 => K [v0] s)
 (.seq (.cond (.t q9) .skip
 (.exit n0))
 (.seq (.block n1 (.seq (.reg [q5] fun c r s K => K [(r q8)] s)
 (.seq (.reg [q16] fun c r s K => ixs n1 (r q0) (r q5) fun v0 => ld s v0 fun v1 => h_op4_callV (.c (r q1)) [(.c v1)] c r s fun v2 s => K [v2] s)
 (.cond (.t q16) (.seq (.reg [q4] fun c r s K => K [(r q5)] s)
 .ret)
 .skip))))
 (.reg [q8] fun c r s K => binK .add (r q8) I1 fun v0 => K [v0] s)))))))
 (.seq (.reg [q4] fun c r s K => (fun v0 => K [v0] s) (.sc (.int .i64 (.negSucc n0))))
 .ret))), [(.tmp q4)], [q0, q1], [q6, q10, q11, q12, q13, q14, q15, q17, q18]⟩
/- attestor/compose.Segments -/
noncomputable def cf80 : HF := ⟨
(.seq (.reg [q1, q2] fun c r s K => bxx s (r q0) fun v0 s => K [v0, I0] s)
 (.seq (.seq (.reg [q5] fun c r s K => lN s n8 (r q1) fun v0 => c n118 [v0] s fun v1 s => nott v1 fun v2 => K [v2] s)
 (.cond (.t q5) (.seq (.reg [q2] fun c r s K => K [I0] s)
 .ret)
 .skip))
 (.seq (.reg [q2] fun c r s K => lN s n8 (r q1) fun v0 => c n120 [v0] s fun v1 s => binK .sub v1 I1 fun v2 => h_op4_minmax true [(.c I1), (.c v2)] c r s fun v3 s => K [v3] s)
 .ret))), [(.tmp q2)], [q0], [q3, q4, q6, q7, q8, q9]⟩
/- attestor/system.Degree -/
noncomputable def cf120 : HF := ⟨
(.seq (.reg [q1, q2] fun c r s K => bxx s (r q0) fun v0 s => K [v0, I0] s)
 (.seq (.seq (.reg [q10] fun c r s K => lN s n8 (r q1) fun v0 => c n118 [v0] s fun v1 s => nott v1 fun v2 => K [v2] s)
 (.cond (.t q10) (.seq (.reg [q2] fun c r s K => K [I0] s)
 .ret)
 .skip))
 (.seq (.reg [q3] fun c r s K => K [I1] s)
 (.seq (.seq (.reg [q12, q13, q14] fun c r s K => fad n5 (r q1) fun v0 => ld s v0 fun v1 => lnS v1 fun v2 => K [v1, v2, I0] s)
 (.block n0 (.loop (.seq (.reg [q15] fun c r s K => binK .lss (r q14) (r q13) fun v0 => K [v0] s)
 (.seq (.cond (.t q15) .skip
 (.exit n0))
 (.seq (.block n1 (.seq (.reg [q5] fun c r s K => ixs n2 (r q12) (r q14) fun v0 => lN s n2 v0 fun v1 => alc s [zb, zn] fun v2 s => sto s n2 v2 v1 fun s => K [v2] s)
 (.reg [q3] fun c r s K => fad n1 (r q5) fun v0 => ld s v0 fun v1 => c (nat_lit 238) [v1] s fun v2 s => h_op4_minmax true [(.c (r q3)), (.c v2)] c r s fun v3 s => K [v3] s)))
 (.reg [q14] fun c r s K => binK .add (r q14) I1 fun v0 => K [v0] s)))))))
 (.seq (.seq (.reg [q25, q26, q27] fun c r s K => fad n6 (r q1) fun v0 => ld s v0 fun v1 => lnS v1 fun v2 => K [v1, v2, I0] s)
 (.block n2 (.loop (.seq (.reg [q28] fun c r s K => binK .lss (r q27) (r q26) fun v0 => K [v0] s)
 (.seq (.cond (.t q28) .skip
 (.exit n2))
 (.seq (.block n3 (.seq (.reg [q7] fun c r s K => ixs n2 (r q25) (r q27) fun v0 => lN s n2 v0 fun v1 => alc s [zn, zn] fun v2 s => sto s n2 v2 v1 fun s => K [v2] s)
 (.reg [q3] fun c r s K => fad n0 (r q7) fun v0 => ld s v0 fun v1 => lnS v1 fun v2 => binK .add v2 I1 fun v3 => h_op4_minmax true [(.c (r q3)), (.c v3)] c r s fun v4 s => K [v4] s)))
 (.reg [q27] fun c r s K => binK .add (r q27) I1 fun v0 => K [v0] s)))))))
 (.seq (.seq (.reg [q41] fun c r s K => fad n7 (r q1) fun v0 => ld s v0 fun v1 => lnS v1 fun v2 => binK .gtr v2 I0 fun v3 => K [v3] s)
 (.cond (.t q41) (.reg [q3] fun c r s K => h_op4_minmax true [(.c (r q3)), (.c I3)] c r s fun v0 s => K [v0] s)
 .skip))
 (.seq (.reg [q2] fun c r s K => K [(r q3)] s)
 .ret))))))), [(.tmp q2)], [q0], [q8, q9, q11, q16, q17, q18, q19, q20, q21, q22, q23, q24, q29, q30, q31, q32, q33, q34, q35, q36, q37, q38, q39, q40, q42, q43, q44]⟩
/- attestor/mono.Degree -/
noncomputable def cf238 : HF := ⟨
(.seq (.reg [q2] fun c r s K => K [I0] s)
 (.seq (.reg [q3] fun c r s K => K [I0] s)
 (.seq (.seq (.reg [q9, q10, q11] fun c r s K => lnS (r q0) fun v0 => K [(r q0), v0, I0] s)
 (.block n0 (.loop (.seq (.reg [q12] fun c r s K => binK .lss (r q11) (r q10) fun v0 => K [v0] s)
 (.seq (.cond (.t q12) .skip
 (.exit n0))
 (.seq (.block n1 (.seq (.reg [q5] fun c r s K => ixs n2 (r q9) (r q11) fun v0 => lN s n2 v0 fun v1 => alc s [zu, zn] fun v2 s => sto s n2 v2 v1 fun s => K [v2] s)
 (.seq (.reg [q6] fun c r s K => K [I0] s)
 (.seq (.seq (.reg [q16, q17, q18] fun c r s K => fad n1 (r q5) fun v0 => ld s v0 fun v1 => lnS v1 fun v2 => K [v1, v2, I0] s)
 (.block n2 (.loop (.seq (.reg [q19] fun c r s K => binK .lss (r q18) (r q17) fun v0 => K [v0] s)
 (.seq (.cond (.t q19) .skip
 (.exit n2))
 (.seq (.block n3 (.seq (.reg [q8] fun c r s K => ixs n2 (r q16) (r q18) fun v0 => lN s n2 v0 fun v1 => alc s [zb, zi] fun v2 s => sto s n2 v2 v1 fun s => K [v2] s)
 (.seq (.reg [q23] fun c r s K => fad n0 (r q8) fun v0 => ld s v0 fun v1 => K [v1] s)
 (.block n4 (.seq (.seq (.reg [q24] fun c r s K => binK .eql (r q23) B1 fun v0 => K [v0] s)
 (.cond (.t q24) .skip
 (.seq (.reg [q24] fun c r s K => binK .eql (r q23) B2 fun v0 => K [v0] s)
 (.cond (.t q24) .skip
 (.seq (.reg [q24] fun c r s K => binK .eql (r q23) B3 fun v0 => K [v0] s)
 (.cond (.t q24) .skip
 (.seq (.reg [q24] fun c r s K => binK .eql (r q23) B5 fun v0 => K [v0] s)
 (.cond (.t q24) .skip
 (.reg [q24] fun c r s K => binK .eql (r q23) B6 fun v0 => K [v0] s)))))))))
 (.cond (.t q24) (.reg [q6] fun c r s K => binK .add (r q6) I1 fun v0 => K [v0] s)
 .skip))))))
 (.reg [q18] fun c r s K => binK .add (r q18) I1 fun v0 => K [v0] s)))))))
 (.reg [q3] fun c r s K => h_op4_minmax true [(.c (r q3)), (.c (r q6))] c r s fun v0 s => K [v0] s)))))
 (.reg [q11] fun c r s K => binK .add (r q11) I1 fun v0 => K [v0] s)))))))
 (.seq (.reg [q2] fun c r s K => K [(r q3)] s)
 .ret)))), [(.tmp q2)], [q0], [q13, q14, q15, q20, q21, q22, q25, q26, q27, q28, q29, q30, q31, q32, q33, q34, q35, q36, q37]⟩
/- attestor/system.Valid -/
noncomputable def cf118 : HF := ⟨
(.seq (.reg [q1, q2] fun c r s K => bxx s (r q0) fun v0 s => K [v0, ff] s)
 (.seq (.seq (.drw [q34] fun c r s K => (fun z m => fad n0 (r q1) fun v0 => dL z m n2 n1 s v0 fun v1 m s => dw3 m n4 n3 s (fun s q => c (nat_lit 181) [v1] s q) fun v2 m s => nott v2 fun v3 => jnD false v3 (fun jj => fad n1 (r q1) fun v => jj v m s) m s fun v4 m s => jnD false v3 (fun jj => dL z m n64 n63 s v4 jj) m s fun v5 m s => jnD false v3 (fun jj => fad n0 (r q1) fun v => jj v m s) m s fun v6 m s => jnD false v3 (fun jj => dL z m (nat_lit 256) n159 s v6 jj) m s fun v7 m s => jnD false v3 (fun jj => dw3 m (nat_lit 512) (nat_lit 415) s (fun s q => c n119 [v7] s q) jj) m s fun v8 m s => jnD false v3 (fun jj => h_op4_minmax false [(.c I13), (.c v8)] c r s fun v s => jj v m s) m s fun v9 m s => jnD false v3 (fun jj => dw3 m (nat_lit 2048) (nat_lit 2047) s (fun s q => c (nat_lit 234) [v5, I1, v9] s q) jj) m s fun v10 m s => jnD false v3 (fun jj => nott v10 fun v => jj v m s) m s fun v11 m s => pck v3 tt v11 fun v12 => jnD false v12 (fun jj => fad n2 (r q1) fun v => jj v m s) m s fun v13 m s => jnD false v12 (fun jj => dL z m (nat_lit 65536) (nat_lit 65535) s v13 jj) m s fun v14 m s => jnD false v12 (fun jj => dw3 m (nat_lit 131072) (nat_lit 131071) s (fun s q => c (nat_lit 234) [v14, I1, (i6 n64)] s q) jj) m s fun v15 m s => jnD false v12 (fun jj => nott v15 fun v => jj v m s) m s fun v16 m s => pck v12 tt v16 fun v17 => jnD false v17 (fun jj => fad n3 (r q1) fun v => jj v m s) m s fun v18 m s => jnD false v17 (fun jj => dL z m (nat_lit 4194304) (nat_lit 4194303) s v18 jj) m s fun v19 m s => jnD false v17 (fun jj => dw3 m (nat_lit 8388608) (nat_lit 8388607) s (fun s q => c (nat_lit 234) [v19, I0, I16] s q) jj) m s fun v20 m s => jnD false v17 (fun jj => nott v20 fun v => jj v m s) m s fun v21 m s => pck v17 tt v21 fun v22 => K [v22] s) s.next mk0)
 (.cond (.t q34) (.seq (.reg [q2] fun c r s K => K [ff] s)
 .ret)
 .skip))
 (.seq (.seq (.reg [q56] fun c r s K => fad n4 (r q1) fun v0 => ld s v0 fun v1 => lnS v1 fun v2 => binK .gtr v2 (i6 n64) fun v3 => jf v3 (fad n5 (r q1)) s fun v4 s => jf v3 (ld s v4) s fun v5 s => jf v3 (lnS v5) s fun v6 s => jf v3 (binK .gtr v6 (i6 n64)) s fun v7 s => pck v3 tt v7 fun v8 => jf v8 (fad n6 (r q1)) s fun v9 s => jf v8 (ld s v9) s fun v10 s => jf v8 (lnS v10) s fun v11 s => jf v8 (binK .gtr v11 I4) s fun v12 s => pck v8 tt v12 fun v13 => jf v13 (fad n7 (r q1)) s fun v14 s => jf v13 (ld s v14) s fun v15 s => jf v13 (lnS v15) s fun v16 s => jf v13 (binK .gtr v16 I8) s fun v17 s => pck v13 tt v17 fun v18 => K [v18] s)
 (.cond (.t q56) (.seq (.reg [q2] fun c r s K => K [ff] s)
 .ret)
 .skip))
 (.seq (.seq (.drw [q65] fun c r s K => (fun z m => fad n0 (r q1) fun v0 => dL z m n2 n1 s v0 fun v1 m s => fad n1 (r q1) fun v2 => dL z m n8 n4 s v2 fun v3 m s => xS true I1 v3 c r s fun v4 s => fad n4 (r q1) fun v5 => dL z m n64 n32 s v5 fun v6 m s => dw3 m n128 n127 s (fun s q => c n128 [v1, v4, v6] s q) fun v7 m s => nott v7 fun v8 => K [v8] s) s.next mk0)
 (.cond (.t q65) (.seq (.reg [q2] fun c r s K => K [ff] s)
 .ret)
 .skip))
 (.seq (.seq (.reg [q67, q68, q69] fun c r s K => fad n5 (r q1) fun v0 => ld s v0 fun v1 => lnS v1 fun v2 => K [v1, v2, I0] s)
 (.block n0 (.loop (.seq (.reg [q70] fun c r s K => binK .lss (r q69) (r q68) fun v0 => K [v0] s)
 (.seq (.cond (.t q70) .skip
 (.exit n0))
 (.seq (.block n1 (.seq (.reg [q4] fun c r s K => ixs n2 (r q67) (r q69) fun v0 => lN s n2 v0 fun v1 => alc s [zb, zn] fun v2 s => sto s n2 v2 v1 fun s => K [v2] s)
 (.seq (.reg [q76] fun c r s K => lN s n8 (r q1) fun v0 => lN s n2 (r q4) fun v1 => c (nat_lit 235) [v0, v1] s fun v2 s => nott v2 fun v3 => K [v3] s)
 (.cond (.t q76) (.seq (.reg [q2] fun c r s K => K [ff] s)
 .ret)
 .skip))))
 (.reg [q69] fun c r s K => binK .add (r q69) I1 fun v0 => K [v0] s)))))))
 (.seq (.seq (.reg [q79, q80, q81] fun c r s K => fad n6 (r q1) fun v0 => ld s v0 fun v1 => lnS v1 fun v2 => K [v1, v2, I0] s)
 (.block n2 (.loop (.seq (.reg [q82] fun c r s K => binK .lss (r q81) (r q80) fun v0 => K [v0] s)
 (.seq (.cond (.t q82) .skip
 (.exit n2))
 (.seq (.block n3 (.seq (.reg [q6] fun c r s K => ixs n2 (r q79) (r q81) fun v0 => lN s n2 v0 fun v1 => alc s [zn, zn] fun v2 s => sto s n2 v2 v1 fun s => K [v2] s)
 (.seq (.reg [q88] fun c r s K => lN s n8 (r q1) fun v0 => lN s n2 (r q6) fun v1 => c (nat_lit 236) [v0, v1] s fun v2 s => nott v2 fun v3 => K [v3] s)
 (.cond (.t q88) (.seq (.reg [q2] fun c r s K => K [ff] s)
 .ret)
 .skip))))
 (.reg [q81] fun c r s K => binK .add (r q81) I1 fun v0 => K [v0] s)))))))
 (.seq (.seq (.reg [q91, q92, q93] fun c r s K => fad n7 (r q1) fun v0 => ld s v0 fun v1 => lnS v1 fun v2 => K [v1, v2, I0] s)
 (.block n4 (.loop (.seq (.reg [q94] fun c r s K => binK .lss (r q93) (r q92) fun v0 => K [v0] s)
 (.seq (.cond (.t q94) .skip
 (.exit n4))
 (.seq (.block n5 (.seq (.reg [q8] fun c r s K => ixs n4 (r q91) (r q93) fun v0 => lN s n4 v0 fun v1 => alc s [zn, zn, zb, zi] fun v2 s => sto s n4 v2 v1 fun s => K [v2] s)
 (.seq (.reg [q100] fun c r s K => lN s n8 (r q1) fun v0 => lN s n4 (r q8) fun v1 => c (nat_lit 237) [v0, v1] s fun v2 s => nott v2 fun v3 => K [v3] s)
 (.cond (.t q100) (.seq (.reg [q2] fun c r s K => K [ff] s)
 .ret)
 .skip))))
 (.reg [q93] fun c r s K => binK .add (r q93) I1 fun v0 => K [v0] s)))))))
 (.seq (.reg [q2] fun c r s K => K [tt] s)
 .ret)))))))), [(.tmp q2)], [q0], [q9, q10, q11, q12, q13, q14, q15, q16, q17, q18, q19, q20, q21, q22, q23, q24, q25, q26, q27, q28, q29, q30, q31, q32, q33, q35, q36, q37, q38, q39, q40, q41, q42, q43, q44, q45, q46, q47, q48, q49, q50, q51, q52, q53, q54, q55, q57, q58, q59, q60, q61, q62, q63, q64, q66, q71, q72, q73, q74, q75, q77, q78, q83, q84, q85, q86, q87, q89, q90, q95, q96, q97, q98, q99, q101]⟩
/- attestor/system.looked -/
noncomputable def cf237 : HF := ⟨
(.seq (.reg [q2, q3, q4] fun c r s K => bxx s (r q0) fun v0 s => bxx s (r q1) fun v1 s => K [v0, v1, ff] s)
 (.seq (.reg [q5] fun c r s K => fad n0 (r q3) fun v0 => ld s v0 fun v1 => lnS v1 fun v2 => K [v2] s)
 (.seq (.reg [q4] fun c r s K => c (nat_lit 234) [(r q5), I1, I4] s fun v0 s => jt v0 (fad n2 (r q3)) s fun v1 s => jt v0 (fad n0 v1) s fun v2 s => jt v0 (ld s v2) s fun v3 s => jt v0 (binK .eql v3 B1) s fun v4 s => pck v0 v4 ff fun v5 => jt v5 (lN s n8 (r q2)) s fun v6 s => jt v5 (fad n2 (r q3)) s fun v7 s => jt v5 (lN s n2 v7) s fun v8 s => jn true v5 (fun j => c (nat_lit 349) [v6, v8] s j) s fun v9 s => pck v5 v9 ff fun v10 => jt v10 (lN s n8 (r q2)) s fun v11 s => jt v10 (fad n0 (r q3)) s fun v12 s => jt v10 (ld s v12) s fun v13 s => mt v10 (r q5) s fun v14 s => jn true v10 (fun j => h_op3_buildS n2 n1 [zb, zb] [(n0, n1, (.c B1)), (n1, n1, (.c B3))] c r s j) s fun v15 s => jn true v10 (fun j => c (nat_lit 351) [v11, v13, v14, v15] s j) s fun v16 s => pck v10 v16 ff fun v17 => jt v17 (lN s n8 (r q2)) s fun v18 s => jt v17 (fad n1 (r q3)) s fun v19 s => jt v17 (ld s v19) s fun v20 s => mt v17 (r q5) s fun v21 s => jn true v17 (fun j => h_op3_buildS n1 n1 [zb] [(n0, n1, (.c B3))] c r s j) s fun v22 s => jn true v17 (fun j => c (nat_lit 351) [v18, v20, v21, v22] s j) s fun v23 s => pck v17 v23 ff fun v24 => K [v24] s)
 .ret))), [(.tmp q4)], [q0, q1], [q6, q7, q8, q9, q10, q11, q12, q13, q14, q15, q16, q17, q18, q19, q20, q21, q22, q23, q24, q25, q26, q27, q28, q29, q30, q31, q32, q33, q34, q35, q36, q37, q38]⟩
/- attestor/system.tupled -/
noncomputable def cf351 : HF := ⟨
(.seq (.reg [q4, q7, q8] fun c r s K => bxx s (r q0) fun v0 s => bxx s (r q3) fun v1 s => K [v0, v1, ff] s)
 (.seq (.reg [q8] fun c r s K => lnS (r q1) fun v0 => binK .eql v0 (r q2) fun v1 => mt v1 (r q1) s fun v2 s => jn true v1 (fun j => h_op4_makeFunc (nat_lit 395) [(.c (r q4)), (.c (r q7))] c r s j) s fun v3 s => jn true v1 (fun j => c (nat_lit 350) [v2, v3] s j) s fun v4 s => jt v1 (nott v4) s fun v5 s => pck v1 v5 ff fun v6 => K [v6] s)
 .ret)), [(.tmp q8)], [q0, q1, q2, q3], [q9, q10, q11, q12, q13, q14, q15, q16, q17, q18]⟩
/- slices.ContainsFunc[[]attestor/api.Var,attestor/api.Var] -/
noncomputable def cf350 : HF := ⟨
(.seq (.reg [q4] fun c r s K => K [ff] s)
 (.seq (.reg [q4] fun c r s K => c (nat_lit 394) [(r q0), (r q1)] s fun v0 s => binK .geq v0 I0 fun v1 => K [v1] s)
 .ret)), [(.tmp q4)], [q0, q1], [q5, q6, q7, q8]⟩
/- slices.IndexFunc[[]attestor/api.Var,attestor/api.Var] -/
noncomputable def cf394 : HF := ⟨
(.seq (.reg [q4] fun c r s K => K [I0] s)
 (.seq (.seq (.reg [q7, q8] fun c r s K => lnS (r q0) fun v0 => K [v0, I0] s)
 (.block n0 (.loop (.seq (.reg [q9] fun c r s K => binK .lss (r q8) (r q7) fun v0 => K [v0] s)
 (.seq (.cond (.t q9) .skip
 (.exit n0))
 (.seq (.block n1 (.seq (.reg [q5] fun c r s K => K [(r q8)] s)
 (.seq (.reg [q16] fun c r s K => ixs n2 (r q0) (r q5) fun v0 => lN s n2 v0 fun v1 => h_op4_callV (.c (r q1)) [(.c v1)] c r s fun v2 s => K [v2] s)
 (.cond (.t q16) (.seq (.reg [q4] fun c r s K => K [(r q5)] s)
 .ret)
 .skip))))
 (.reg [q8] fun c r s K => binK .add (r q8) I1 fun v0 => K [v0] s)))))))
 (.seq (.reg [q4] fun c r s K => (fun v0 => K [v0] s) (.sc (.int .i64 (.negSucc n0))))
 .ret))), [(.tmp q4)], [q0, q1], [q6, q10, q11, q12, q13, q14, q15, q17, q18]⟩
/- attestor/system.tupled$1 -/
noncomputable def cf395 : HF := ⟨
(.seq (.reg [q3, q4] fun c r s K => bxx s (r q0) fun v0 s => K [v0, ff] s)
 (.seq (.reg [q4] fun c r s K => lN s n8 (r q1) fun v0 => lN s n2 (r q3) fun v1 => c (nat_lit 349) [v0, v1] s fun v2 s => nott v2 fun v3 => jf v3 (ld s (r q2)) s fun v4 s => jf v3 (fad n0 (r q3)) s fun v5 s => jf v3 (ld s v5) s fun v6 s => jn false v3 (fun j => c (nat_lit 396) [v4, v6] s j) s fun v7 s => jf v3 (nott v7) s fun v8 s => pck v3 tt v8 fun v9 => K [v9] s)
 .ret)), [(.tmp q4)], [q0, q1, q2], [q5, q6, q7, q8, q9, q10, q11, q12, q13, q14, q15]⟩
/- slices.Contains[[]attestor/api.VarKind,attestor/api.VarKind] -/
noncomputable def cf396 : HF := ⟨
(.seq (.reg [q4] fun c r s K => K [ff] s)
 (.seq (.reg [q4] fun c r s K => c (nat_lit 404) [(r q0), (r q1)] s fun v0 s => binK .geq v0 I0 fun v1 => K [v1] s)
 .ret)), [(.tmp q4)], [q0, q1], [q5, q6, q7, q8]⟩
/- slices.Index[[]attestor/api.VarKind,attestor/api.VarKind] -/
noncomputable def cf404 : HF := ⟨
(.seq (.reg [q4] fun c r s K => K [I0] s)
 (.seq (.seq (.reg [q7, q8] fun c r s K => lnS (r q0) fun v0 => K [v0, I0] s)
 (.block n0 (.loop (.seq (.reg [q9] fun c r s K => binK .lss (r q8) (r q7) fun v0 => K [v0] s)
 (.seq (.cond (.t q9) .skip
 (.exit n0))
 (.seq (.block n1 (.seq (.reg [q5] fun c r s K => K [(r q8)] s)
 (.seq (.reg [q16] fun c r s K => ixs n1 (r q0) (r q5) fun v0 => ld s v0 fun v1 => binK .eql (r q1) v1 fun v2 => K [v2] s)
 (.cond (.t q16) (.seq (.reg [q4] fun c r s K => K [(r q5)] s)
 .ret)
 .skip))))
 (.reg [q8] fun c r s K => binK .add (r q8) I1 fun v0 => K [v0] s)))))))
 (.seq (.reg [q4] fun c r s K => (fun v0 => K [v0] s) (.sc (.int .i64 (.negSucc n0))))
 .ret))), [(.tmp q4)], [q0, q1], [q6, q10, q11, q12, q13, q14, q15, q17, q18]⟩
/- attestor/system.knows -/
noncomputable def cf349 : HF := ⟨
(.seq (.reg [q2, q3, q4] fun c r s K => bxx s (r q0) fun v0 s => bxx s (r q1) fun v1 s => K [v0, v1, ff] s)
 (.seq (.reg [q5] fun c r s K => K [I0] s)
 (.seq (.seq (.reg [q7] fun c r s K => fad n0 (r q3) fun v0 => ld s v0 fun v1 => K [v1] s)
 (.block n0 (.seq (.seq (.reg [q8] fun c r s K => binK .eql (r q7) B1 fun v0 => K [v0] s)
 (.cond (.t q8) .skip
 (.reg [q8] fun c r s K => binK .eql (r q7) B2 fun v0 => K [v0] s)))
 (.cond (.t q8) (.reg [q5] fun c r s K => fad n2 (r q2) fun v0 => ld s v0 fun v1 => K [v1] s)
 (.seq (.reg [q13] fun c r s K => binK .eql (r q7) B3 fun v0 => K [v0] s)
 (.cond (.t q13) (.reg [q5] fun c r s K => fad n4 (r q2) fun v0 => ld s v0 fun v1 => lnS v1 fun v2 => K [v2] s)
 (.seq (.reg [q18] fun c r s K => binK .eql (r q7) B4 fun v0 => K [v0] s)
 (.cond (.t q18) (.reg [q5] fun c r s K => fad n3 (r q2) fun v0 => ld s v0 fun v1 => K [v1] s)
 .skip))))))))
 (.seq (.reg [q4] fun c r s K => fad n1 (r q3) fun v0 => ld s v0 fun v1 => binK .geq v1 I0 fun v2 => jt v2 (fad n1 (r q3)) s fun v3 s => jt v2 (ld s v3) s fun v4 s => mt v2 (r q5) s fun v5 s => jt v2 (binK .lss v4 v5) s fun v6 s => pck v2 v6 ff fun v7 => K [v7] s)
 .ret)))), [(.tmp q4)], [q0, q1], [q6, q9, q10, q11, q12, q14, q15, q16, q17, q19, q20, q21, q22, q23, q24, q25, q26, q27, q28, q29, q30]⟩
/- attestor/system.permuted -/
noncomputable def cf236 : HF := ⟨
(.seq (.reg [q2, q3, q4] fun c r s K => bxx s (r q0) fun v0 s => bxx s (r q1) fun v1 s => K [v0, v1, ff] s)
 (.seq (.seq (.reg [q29] fun c r s K => fad n0 (r q3) fun v0 => ld s v0 fun v1 => lnS v1 fun v2 => c (nat_lit 234) [v2, I1, I4] s fun v3 s => nott v3 fun v4 => jf v4 (fad n1 (r q3)) s fun v5 s => jf v4 (ld s v5) s fun v6 s => jf v4 (lnS v6) s fun v7 s => jf v4 (fad n0 (r q3)) s fun v8 s => jf v4 (ld s v8) s fun v9 s => jf v4 (lnS v9) s fun v10 s => jf v4 (binK .neq v7 v10) s fun v11 s => pck v4 tt v11 fun v12 => jf v12 (fad n0 (r q3)) s fun v13 s => jf v12 (ld s v13) s fun v14 s => jf v12 (ixs n1 v14 I0) s fun v15 s => jf v12 (ld s v15) s fun v16 s => jf v12 (lnS v16) s fun v17 s => jn false v12 (fun j => c (nat_lit 234) [v17, I1, I4] s j) s fun v18 s => jf v12 (nott v18) s fun v19 s => pck v12 tt v19 fun v20 => K [v20] s)
 (.cond (.t q29) (.seq (.reg [q4] fun c r s K => K [ff] s)
 .ret)
 .skip))
 (.seq (.seq (.reg [q35, q36, q37] fun c r s K => fad n0 (r q3) fun v0 => ld s v0 fun v1 => fad n1 (r q3) fun v2 => ld s v2 fun v3 => h_op3_buildS n2 n1 [zn, zn] [(n0, n1, (.c v1)), (n1, n1, (.c v3))] c r s fun v4 s => c (nat_lit 188) [v4] s fun v5 s => lnS v5 fun v6 => K [v5, v6, I0] s)
 (.block n0 (.loop (.seq (.reg [q38] fun c r s K => binK .lss (r q37) (r q36) fun v0 => K [v0] s)
 (.seq (.cond (.t q38) .skip
 (.exit n0))
 (.seq (.block n1 (.seq (.reg [q6] fun c r s K => ixs n1 (r q35) (r q37) fun v0 => ld s v0 fun v1 => K [v1] s)
 (.seq (.drw [q50] fun c r s K => (fun z m => dN z m n1 n0 s n8 (r q2) fun v0 m s => fad n0 (r q3) fun v1 => dL z m n8 n4 s v1 fun v2 m s => ixs n1 v2 I0 fun v3 => dL z m n32 n28 s v3 fun v4 m s => lnS v4 fun v5 => dw1 m n128 (fun q => h_op3_buildS n2 n1 [zb, zb] [(n0, n1, (.c B1)), (n1, n1, (.c B3))] c r s q) fun v6 m s => dw3 m (nat_lit 256) (nat_lit 255) s (fun s q => c (nat_lit 351) [v0, (r q6), v5, v6] s q) fun v7 m s => nott v7 fun v8 => K [v8] s) s.next mk0)
 (.cond (.t q50) (.seq (.reg [q4] fun c r s K => K [ff] s)
 .ret)
 .skip))))
 (.reg [q37] fun c r s K => binK .add (r q37) I1 fun v0 => K [v0] s)))))))
 (.seq (.reg [q4] fun c r s K => K [tt] s)
 .ret)))), [(.tmp q4)], [q0, q1], [q7, q8, q9, q10, q11, q12, q13, q14, q15, q16, q17, q18, q19, q20, q21, q22, q23, q24, q25, q26, q27, q28, q30, q31, q32, q33, q34, q39, q40, q41, q42, q43, q44, q45, q46, q47, q48, q49, q51]⟩
/- slices.Concat[[][]attestor/api.Var,[]attestor/api.Var] -/
noncomputable def cf188 : HF := ⟨
(.seq (.reg [q2] fun c r s K => K [(.sc zn)] s)
 (.seq (.reg [q3] fun c r s K => K [I0] s)
 (.seq (.seq (.reg [q9, q10, q11] fun c r s K => lnS (r q0) fun v0 => K [(r q0), v0, I0] s)
 (.block n0 (.loop (.seq (.reg [q12] fun c r s K => binK .lss (r q11) (r q10) fun v0 => K [v0] s)
 (.seq (.cond (.t q12) .skip
 (.exit n0))
 (.seq (.block n1 (.seq (.reg [q5] fun c r s K => ixs n1 (r q9) (r q11) fun v0 => ld s v0 fun v1 => K [v1] s)
 (.seq (.reg [q3] fun c r s K => lnS (r q5) fun v0 => binK .add (r q3) v0 fun v1 => K [v1] s)
 (.seq (.reg [q20] fun c r s K => binK .lss (r q3) I0 fun v0 => K [v0] s)
 (.cond (.t q20) (.reg [] fun c r s K => h_op4_iface n9 (.c (.sc (.lit (.string ⟨#[108, 101, 110, 32, 111, 117, 116, 32, 111, 102, 32, 114, 97, 110, 103, 101]⟩)))) c r s fun v0 s => h_op4_bad n102 c r s fun _ s => K [] s)
 .skip)))))
 (.reg [q11] fun c r s K => binK .add (r q11) I1 fun v0 => K [v0] s)))))))
 (.seq (.reg [q6] fun c r s K => c (nat_lit 307) [(.sc zn), (r q3)] s fun v0 s => K [v0] s)
 (.seq (.seq (.reg [q25, q26, q27] fun c r s K => lnS (r q0) fun v0 => K [(r q0), v0, I0] s)
 (.block n2 (.loop (.seq (.reg [q28] fun c r s K => binK .lss (r q27) (r q26) fun v0 => K [v0] s)
 (.seq (.cond (.t q28) .skip
 (.exit n2))
 (.seq (.block n3 (.seq (.reg [q8] fun c r s K => ixs n1 (r q25) (r q27) fun v0 => ld s v0 fun v1 => K [v1] s)
 (.reg [q6] fun c r s K => xA n1 n24 (r q6) (r q8) c r s fun v0 s => K [v0] s)))
 (.reg [q27] fun c r s K => binK .add (r q27) I1 fun v0 => K [v0] s)))))))
 (.seq (.reg [q2] fun c r s K => K [(r q6)] s)
 .ret)))))), [(.tmp q2)], [q0], [q13, q14, q15, q16, q17, q18, q19, q21, q22, q23, q24, q29, q30, q31, q32, q33, q34, q35]⟩
/- slices.Grow[[][]attestor/api.Var,[]attestor/api.Var] -/
noncomputable def cf307 : HF := ⟨
(.seq (.reg [q4] fun c r s K => K [(.sc zn)] s)
 (.seq (.seq (.reg [q6] fun c r s K => binK .lss (r q1) I0 fun v0 => K [v0] s)
 (.cond (.t q6) (.reg [] fun c r s K => h_op4_iface n9 (.c (.sc (.lit (.string ⟨#[99, 97, 110, 110, 111, 116, 32, 98, 101, 32, 110, 101, 103, 97, 116, 105, 118, 101]⟩)))) c r s fun v0 s => h_op4_bad n102 c r s fun _ s => K [] s)
 .skip))
 (.seq (.seq (.reg [q1] fun c r s K => h_op4_capOf (.c (r q0)) c r s fun v0 s => lnS (r q0) fun v1 => binK .sub v0 v1 fun v2 => binK .sub (r q1) v2 fun v3 => K [v3] s)
 (.seq (.reg [q16] fun c r s K => binK .gtr (r q1) I0 fun v0 => K [v0] s)
 (.cond (.t q16) (.reg [q0] fun c r s K => h_op4_capOf (.c (r q0)) c r s fun v0 s => h_op3_sliceS n1 (.c (r q0)) none (some (.c v0)) none c r s fun v1 s => h_op3_appendZ n1 n24 [zn] (.c v1) (.c (r q1)) c r s fun v2 s => lnS (r q0) fun v3 => h_op3_sliceS n1 (.c v2) none (some (.c v3)) none c r s fun v4 s => K [v4] s)
 .skip)))
 (.seq (.reg [q4] fun c r s K => K [(r q0)] s)
 .ret)))), [(.tmp q4)], [q0, q1], [q5, q7, q8, q9, q10, q11, q12, q13, q14, q15, q17, q18, q19, q20, q21, q22, q23, q24, q25, q26]⟩
/- attestor/system.ruled -/
noncomputable def cf235 : HF := ⟨
(.seq (.reg [q2, q3, q4] fun c r s K => bxx s (r q0) fun v0 s => bxx s (r q1) fun v1 s => K [v0, v1, ff] s)
 (.seq (.reg [q5] fun c r s K => fad n0 (r q3) fun v0 => ld s v0 fun v1 => binK .eql v1 B3 fun v2 => jf v2 (fad n0 (r q3)) s fun v3 s => jf v2 (ld s v3) s fun v4 s => jf v2 (binK .eql v4 B4) s fun v5 s => pck v2 tt v5 fun v6 => alc s [(.bool false)] fun v7 s => sto s n1 v7 v6 fun s => K [v7] s)
 (.seq (.seq (.reg [q39] fun c r s K => fad n0 (r q3) fun v0 => ld s v0 fun v1 => binK .lss v1 B1 fun v2 => jf v2 (fad n0 (r q3)) s fun v3 s => jf v2 (ld s v3) s fun v4 s => jf v2 (binK .gtr v4 B4) s fun v5 s => pck v2 tt v5 fun v6 => jf v6 (fad n1 (r q3)) s fun v7 s => jf v6 (ld s v7) s fun v8 s => jf v6 (lnS v8) s fun v9 s => jf v6 (binK .gtr v9 (i6 n64)) s fun v10 s => pck v6 tt v10 fun v11 => jf v11 (ld s (r q5)) s fun v12 s => mf v11 v12 s fun v13 s => jt v13 (fad n1 (r q3)) s fun v14 s => jt v13 (ld s v14) s fun v15 s => jn true v13 (fun j => c (nat_lit 238) [v15] s j) s fun v16 s => jt v13 (binK .gtr v16 I1) s fun v17 s => jf v11 (pck v13 v17 ff) s fun v18 s => pck v11 tt v18 fun v19 => K [v19] s)
 (.cond (.t q39) (.seq (.reg [q4] fun c r s K => K [ff] s)
 .ret)
 .skip))
 (.seq (.reg [q6] fun c r s K => h_op4_makeFunc (nat_lit 348) [(.c (r q2)), (.c (r q5))] c r s fun v0 s => K [v0] s)
 (.seq (.seq (.reg [q42, q43, q44] fun c r s K => fad n1 (r q3) fun v0 => ld s v0 fun v1 => lnS v1 fun v2 => K [v1, v2, I0] s)
 (.block n0 (.loop (.seq (.reg [q45] fun c r s K => binK .lss (r q44) (r q43) fun v0 => K [v0] s)
 (.seq (.cond (.t q45) .skip
 (.exit n0))
 (.seq (.block n1 (.seq (.reg [q8] fun c r s K => ixs n2 (r q42) (r q44) fun v0 => lN s n2 v0 fun v1 => alc s [zu, zn] fun v2 s => sto s n2 v2 v1 fun s => K [v2] s)
 (.seq (.drw [q65] fun c r s K => (fun z m => fad n0 (r q8) fun v0 => dL z m n2 n1 s v0 fun v1 m s => fad n0 (r q2) fun v2 => dL z m n8 n4 s v2 fun v3 m s => dw3 m n16 n12 s (fun s q => c n85 [v3] s q) fun v4 m s => binK .geq v1 v4 fun v5 => jnD false v5 (fun jj => fad n1 (r q8) fun v => jj v m s) m s fun v6 m s => jnD false v5 (fun jj => dL z m (nat_lit 256) (nat_lit 255) s v6 jj) m s fun v7 m s => jnD false v5 (fun jj => lnS v7 fun v => jj v m s) m s fun v8 m s => jnD false v5 (fun jj => binK .gtr v8 I8 fun v => jj v m s) m s fun v9 m s => pck v5 tt v9 fun v10 => jnD false v10 (fun jj => fad n1 (r q8) fun v => jj v m s) m s fun v11 m s => jnD false v10 (fun jj => dL z m (nat_lit 16384) (nat_lit 16383) s v11 jj) m s fun v12 m s => jnD false v10 (fun jj => jj (r q6) m s) m s fun v13 m s => jnD false v10 (fun jj => dw3 m (nat_lit 65536) (nat_lit 65535) s (fun s q => c (nat_lit 350) [v12, v13] s q) jj) m s fun v14 m s => pck v10 tt v14 fun v15 => K [v15] s) s.next mk0)
 (.cond (.t q65) (.seq (.reg [q4] fun c r s K => K [ff] s)
 .ret)
 .skip))))
 (.reg [q44] fun c r s K => binK .add (r q44) I1 fun v0 => K [v0] s)))))))
 (.seq (.reg [q4] fun c r s K => K [tt] s)
 .ret)))))), [(.tmp q4)], [q0, q1], [q9, q10, q11, q12, q13, q14, q15, q16, q17, q18, q19, q20, q21, q22, q23, q24, q25, q26, q27, q28, q29, q30, q31, q32, q33, q34, q35, q36, q37, q38, q40, q41, q46, q47, q48, q49, q50, q51, q52, q53, q54, q55, q56, q57, q58, q59, q60, q61, q62, q63, q64, q66]⟩
/- attestor/system.ruled$1 -/
noncomputable def cf348 : HF := ⟨
(.seq (.reg [q3, q4] fun c r s K => bxx s (r q0) fun v0 s => K [v0, ff] s)
 (.seq (.reg [q4] fun c r s K => lN s n8 (r q1) fun v0 => lN s n2 (r q3) fun v1 => c (nat_lit 349) [v0, v1] s fun v2 s => nott v2 fun v3 => jf v3 (ld s (r q2)) s fun v4 s => mf v3 v4 s fun v5 s => jt v5 (fad n0 (r q3)) s fun v6 s => jt v5 (ld s v6) s fun v7 s => jt v5 (binK .eql v7 B2) s fun v8 s => jf v3 (pck v5 v8 ff) s fun v9 s => pck v3 tt v9 fun v10 => K [v10] s)
 .ret)), [(.tmp q4)], [q0, q1, q2], [q5, q6, q7, q8, q9, q10, q11, q12, q13, q14, q15, q16]⟩
/- attestor/system.columns -/
noncomputable def cf128 : HF := ⟨
(.seq (.reg [q3, q4, q6] fun c r s K => bxx s (r q0) fun v0 s => bxx s (r q1) fun v1 s => K [v0, v1, ff] s)
 (.seq (.reg [q6] fun c r s K => h_op4_makeFunc (nat_lit 243) [(.c (r q4)), (.c (r q3))] c r s fun v0 s => c (nat_lit 242) [(r q2), v0] s fun v1 s => nott v1 fun v2 => K [v2] s)
 .ret)), [(.tmp q6)], [q0, q1, q2], [q7, q8, q9, q10]⟩
/- slices.ContainsFunc[[][]uint64,[]uint64] -/
noncomputable def cf242 : HF := ⟨
(.seq (.reg [q4] fun c r s K => K [ff] s)
 (.seq (.reg [q4] fun c r s K => c (nat_lit 353) [(r q0), (r q1)] s fun v0 s => binK .geq v0 I0 fun v1 => K [v1] s)
 .ret)), [(.tmp q4)], [q0, q1], [q5, q6, q7, q8]⟩
/- slices.IndexFunc[[][]uint64,[]uint64] -/
noncomputable def cf353 : HF := ⟨
(.seq (.reg [q4] fun c r s K => K [I0] s)
 (.seq (.seq (.reg [q7, q8] fun c r s K => lnS (r q0) fun v0 => K [v0, I0] s)
 (.block n0 (.loop (.seq (.reg [q9] fun c r s K => binK .lss (r q8) (r q7) fun v0 => K [v0] s)
 (.seq (.cond (.t q9) .skip
 (.exit n0))
 (.seq (.block n1 (.seq (.reg [q5] fun c r s K => K [(r q8)] s)
 (.seq (.reg [q16] fun c r s K => ixs n1 (r q0) (r q5) fun v0 => ld s v0 fun v1 => h_op4_callV (.c (r q1)) [(.c v1)] c r s fun v2 s => K [v2] s)
 (.cond (.t q16) (.seq (.reg [q4] fun c r s K => K [(r q5)] s)
 .ret)
 .skip))))
 (.reg [q8] fun c r s K => binK .add (r q8) I1 fun v0 => K [v0] s)))))))
 (.seq (.reg [q4] fun c r s K => (fun v0 => K [v0] s) (.sc (.int .i64 (.negSucc n0))))
 .ret))), [(.tmp q4)], [q0, q1], [q6, q10, q11, q12, q13, q14, q15, q17, q18]⟩
/- attestor/system.columns$1 -/
noncomputable def cf243 : HF := ⟨
(.seq (.reg [q4] fun c r s K => K [ff] s)
 (.seq (.reg [q4] fun c r s K => lnS (r q0) fun v0 => ld s (r q1) fun v1 => binK .neq v0 v1 fun v2 => jf v2 (ld s (r q2)) s fun v3 s => mf v2 (r q0) s fun v4 s => jn false v2 (fun j => c n127 [v3, v4] s j) s fun v5 s => jf v2 (nott v5) s fun v6 s => pck v2 tt v6 fun v7 => K [v7] s)
 .ret)), [(.tmp q4)], [q0, q1, q2], [q5, q6, q7, q8, q9, q10, q11, q12, q13, q14]⟩
/- attestor/system.elements -/
noncomputable def cf127 : HF := ⟨
(.seq (.reg [q4] fun c r s K => K [ff] s)
 (.seq (.reg [q5] fun c r s K => c n85 [(r q0)] s fun v0 s => alc s [zu] fun v1 s => sto s n1 v1 v0 fun s => K [v1] s)
 (.seq (.reg [q4] fun c r s K => h_op4_makeFunc (nat_lit 241) [(.c (r q5))] c r s fun v0 s => c n133 [(r q1), v0] s fun v1 s => nott v1 fun v2 => K [v2] s)
 .ret))), [(.tmp q4)], [q0, q1], [q6, q7, q8, q9, q10, q11]⟩
/- attestor/system.elements$1 -/
noncomputable def cf241 : HF := ⟨
(.seq (.reg [q3] fun c r s K => K [ff] s)
 (.seq (.reg [q3] fun c r s K => ld s (r q1) fun v0 => binK .geq (r q0) v0 fun v1 => K [v1] s)
 .ret)), [(.tmp q3)], [q0, q1], [q4, q5, q6]⟩
/- attestor/system.between -/
noncomputable def cf234 : HF := ⟨
(.seq (.reg [q6] fun c r s K => K [ff] s)
 (.seq (.reg [q6] fun c r s K => binK .geq (r q0) (r q1) fun v0 => mt v0 (r q0) s fun v1 s => mt v0 (r q2) s fun v2 s => jt v0 (binK .leq v1 v2) s fun v3 s => pck v0 v3 ff fun v4 => K [v4] s)
 .ret)), [(.tmp q6)], [q0, q1, q2], [q7, q8, q9, q10, q11, q12, q13, q14]⟩
/- attestor/compose.values -/
noncomputable def cf132 : HF := ⟨
(.seq (.reg [q3, q4, q6] fun c r s K => bxx s (r q0) fun v0 s => bxx s (r q1) fun v1 s => K [v0, v1, (.sc zn)] s)
 (.seq (.drw [q8, q7] fun c r s K => (fun z m => fad n0 (r q3) fun v0 => dL z m n2 n1 s v0 fun v1 m s => fad n1 (r q3) fun v2 => dL z m n8 n4 s v2 fun v3 m s => fad n0 (r q4) fun v4 => dL z m n32 n16 s v4 fun v5 m s => binK .add v3 v5 fun v6 => xS true I1 v6 c r s fun v7 s => dw1 m (nat_lit 256) (fun q => alc s [zi] q) fun v8 m s => dS z m (nat_lit 1024) (nat_lit 1023) s n1 v8 v7 fun _ m s => K [v8, v1] s) s.next mk0)
 (.seq (.reg [q9] fun c r s K => lN s n8 (r q3) fun v0 => c (nat_lit 260) [v0] s fun v1 s => K [v1] s)
 (.seq (.reg [q10] fun c r s K => ld s (r q8) fun v0 => xM n1 n8 [zu] v0 v0 c r s fun v1 s => K [v1] s)
 (.seq (.drw [q11, q12] fun c r s K => (fun z m => dw3 m n2 n1 s (fun s q => c n95 [(r q7)] s q) fun v0 m s => fad n1 (r q3) fun v1 => dL z m n16 n8 s v1 fun v2 m s => fad n0 (r q4) fun v3 => dL z m n64 n32 s v3 fun v4 m s => binK .add v2 v4 fun v5 => dw3 m (nat_lit 256) (nat_lit 255) s (fun s q => c (nat_lit 200) [(r q7), v5] s q) fun v6 m s => K [v0, v6] s) s.next mk0)
 (.seq (.seq (.reg [q53, q54] fun c r s K => ld s (r q8) fun v0 => K [v0, I0] s)
 (.block n0 (.loop (.seq (.reg [q55] fun c r s K => binK .lss (r q54) (r q53) fun v0 => K [v0] s)
 (.seq (.cond (.t q55) .skip
 (.exit n0))
 (.seq (.block n1 (.seq (.reg [q13] fun c r s K => K [(r q54)] s)
 (.seq (.reg [] fun c r s K => ixs n1 (r q10) (r q13) fun v0 => sto s n1 v0 (r q11) fun s => K [] s)
 (.reg [q11] fun c r s K => c n138 [(r q7), (r q11), (r q12)] s fun v0 s => K [v0] s))))
 (.reg [q54] fun c r s K => binK .add (r q54) I1 fun v0 => K [v0] s)))))))
 (.seq (.reg [q14] fun c r s K => h_op5_mapNew  c r s fun v0 s => K [v0] s)
 (.seq (.seq (.reg [q67, q68, q69] fun c r s K => lnS (r q9) fun v0 => K [(r q9), v0, I0] s)
 (.block n2 (.loop (.seq (.reg [q70] fun c r s K => binK .lss (r q69) (r q68) fun v0 => K [v0] s)
 (.seq (.cond (.t q70) .skip
 (.exit n2))
 (.seq (.block n3 (.seq (.reg [q16] fun c r s K => ixs n1 (r q67) (r q69) fun v0 => ld s v0 fun v1 => K [v1] s)
 (.seq (.seq (.reg [q18] fun c r s K => h_op5_mapGet n1 [zn] false true (.c (r q14)) (.c (r q16)) c r s fun v0 s => xE n0 v0 c r s fun v1 s => xE n1 v0 c r s fun v2 s => K [v2] s)
 (.seq (.reg [q79] fun c r s K => K [(r q18)] s)
 (.cond (.t q79) (.exit n3)
 .skip)))
 (.seq (.reg [q19] fun c r s K => ld s (r q8) fun v0 => xM n1 n8 [zu] v0 v0 c r s fun v1 s => K [v1] s)
 (.seq (.seq (.reg [q82, q83, q84] fun c r s K => lnS (r q10) fun v0 => K [(r q10), v0, I0] s)
 (.block n4 (.loop (.seq (.reg [q85] fun c r s K => binK .lss (r q84) (r q83) fun v0 => K [v0] s)
 (.seq (.cond (.t q85) .skip
 (.exit n4))
 (.seq (.block n5 (.seq (.reg [q20, q21] fun c r s K => ixs n1 (r q82) (r q84) fun v0 => ld s v0 fun v1 => K [(r q84), v1] s)
 (.reg [] fun c r s K => fad n1 (r q3) fun v0 => ld s v0 fun v1 => c (nat_lit 261) [(r q7), v1, (r q16), (r q21)] s fun v2 s => xE n0 v2 c r s fun v3 s => xE n1 v2 c r s fun v4 s => ixs n1 (r q19) (r q20) fun v5 => sto s n1 v5 v3 fun s => K [] s)))
 (.reg [q84] fun c r s K => binK .add (r q84) I1 fun v0 => K [v0] s)))))))
 (.reg [] fun c r s K => c (nat_lit 252) [(r q7), (r q19)] s fun v0 s => h_op5_mapSet n1 (.c (r q14)) (.c (r q16)) (.c v0) c r s fun _ s => K [] s))))))
 (.reg [q69] fun c r s K => binK .add (r q69) I1 fun v0 => K [v0] s)))))))
 (.seq (.reg [q22] fun c r s K => h_op4_makeFunc (nat_lit 262) [(.c (r q8))] c r s fun v0 s => K [v0] s)
 (.seq (.reg [q23] fun c r s K => ld s (r q8) fun v0 => xM n1 n8 [zu] v0 v0 c r s fun v1 s => K [v1] s)
 (.seq (.reg [q24] fun c r s K => lnS (r q9) fun v0 => xM n1 n8 [zu] v0 v0 c r s fun v1 s => K [v1] s)
 (.seq (.seq (.reg [q114, q115] fun c r s K => ld s (r q8) fun v0 => K [v0, I0] s)
 (.block n6 (.loop (.seq (.reg [q116] fun c r s K => binK .lss (r q115) (r q114) fun v0 => K [v0] s)
 (.seq (.cond (.t q116) .skip
 (.exit n6))
 (.seq (.block n7 (.seq (.reg [q25] fun c r s K => K [(r q115)] s)
 (.seq (.reg [q26] fun c r s K => fad n0 (r q4) fun v0 => ld s v0 fun v1 => xS true I1 v1 c r s fun v2 s => binK .add (r q25) v2 fun v3 => K [v3] s)
 (.seq (.drw [q27] fun c r s K => (fun z m => fad n2 (r q4) fun v0 => dL z m n4 n2 s v0 fun v1 m s => dw3 m n16 n15 s (fun s q => h_op4_callV (.c (r q22)) [(.c v1), (.c (r q25))] c r s q) fun v2 m s => fad n2 (r q4) fun v3 => dL z m n128 n64 s v3 fun v4 m s => dw3 m (nat_lit 512) (nat_lit 511) s (fun s q => h_op4_callV (.c (r q22)) [(.c v4), (.c (r q26))] c r s q) fun v5 m s => fad n1 (r q4) fun v6 => dL z m (nat_lit 4096) (nat_lit 2048) s v6 fun v7 m s => dw3 m (nat_lit 16384) (nat_lit 16383) s (fun s q => h_op4_callV (.c (r q22)) [(.c v7), (.c (r q25))] c r s q) fun v8 m s => fad n4 (r q4) fun v9 => dL z m (nat_lit 65536) (nat_lit 32768) s v9 fun v10 m s => fad n3 (r q4) fun v11 => dL z m (nat_lit 524288) (nat_lit 262144) s v11 fun v12 m s => dw3 m (nat_lit 2097152) (nat_lit 1998847) s (fun s q => h_op4_callV (.c (r q22)) [(.c v12), (.c (r q25))] c r s q) fun v13 m s => fad n3 (r q4) fun v14 => dL z m (nat_lit 16777216) (nat_lit 8388608) s v14 fun v15 m s => dw3 m (nat_lit 67108864) (nat_lit 67010559) s (fun s q => h_op4_callV (.c (r q22)) [(.c v15), (.c (r q26))] c r s q) fun v16 m s => fad n5 (r q4) fun v17 => dL z m (nat_lit 268435456) (nat_lit 134217728) s v17 fun v18 m s => h_op3_build [zn, zn, zn, zn, zn, zn, zn] [(n0, n1, (.c v2)), (n1, n1, (.c v5)), (n2, n1, (.c v8)), (n3, n1, (.c v10)), (n4, n1, (.c v13)), (n5, n1, (.c v16)), (n6, n1, (.c v18))] c r s fun v19 s => dw1 m (nat_lit 1073741824) (fun q => alc s [zn, zn, zn, zn, zn, zn, zn] q) fun v20 m s => dS z m (nat_lit 2147483648) (nat_lit 2147483647) s n7 v20 v19 fun _ m s => K [v20] s) s.next mk0)
 (.seq (.reg [q28] fun c r s K => lN s n8 (r q3) fun v0 => lN s n7 (r q27) fun v1 => c (nat_lit 263) [v0, v1] s fun v2 s => xE n0 v2 c r s fun v3 s => xE n1 v2 c r s fun v4 s => K [v3] s)
 (.seq (.seq (.reg [q159, q160, q161] fun c r s K => lnS (r q9) fun v0 => K [(r q9), v0, I0] s)
 (.block n8 (.loop (.seq (.reg [q162] fun c r s K => binK .lss (r q161) (r q160) fun v0 => K [v0] s)
 (.seq (.cond (.t q162) .skip
 (.exit n8))
 (.seq (.block n9 (.seq (.reg [q30, q31] fun c r s K => ixs n1 (r q159) (r q161) fun v0 => ld s v0 fun v1 => K [(r q161), v1] s)
 (.reg [] fun c r s K => h_op5_mapGet n1 [zn] false false (.c (r q14)) (.c (r q31)) c r s fun v0 s => ixs n1 v0 (r q25) fun v1 => ld s v1 fun v2 => ixs n1 (r q24) (r q30) fun v3 => sto s n1 v3 v2 fun s => K [] s)))
 (.reg [q161] fun c r s K => binK .add (r q161) I1 fun v0 => K [v0] s)))))))
 (.reg [] fun c r s K => c (nat_lit 264) [(r q7), (r q28), (r q24), (r q2)] s fun v0 s => ixs n1 (r q23) (r q25) fun v1 => sto s n1 v1 v0 fun s => K [] s)))))))
 (.reg [q115] fun c r s K => binK .add (r q115) I1 fun v0 => K [v0] s)))))))
 (.seq (.reg [q6] fun c r s K => K [(r q23)] s)
 .ret))))))))))))), [(.tmp q6)], [q0, q1, q2], [q32, q33, q34, q35, q36, q37, q38, q39, q40, q41, q42, q43, q44, q45, q46, q47, q48, q49, q50, q51, q52, q56, q57, q58, q59, q60, q61, q62, q63, q64, q65, q66, q71, q72, q74, q75, q76, q73, q77, q78, q17, q80, q81, q86, q87, q88, q90, q91, q92, q93, q94, q95, q96, q97, q89, q98, q99, q100, q101, q102, q103, q104, q105, q106, q107, q108, q109, q110, q111, q112, q113, q117, q118, q119, q120, q121, q122, q123, q124, q125, q126, q127, q128, q129, q130, q131, q132, q133, q134, q135, q136, q137, q138, q139, q140, q141, q142, q143, q144, q145, q146, q147, q148, q149, q150, q151, q152, q154, q155, q156, q153, q157, q158, q29, q163, q164, q165, q166, q167, q168, q169, q170, q171, q172, q173, q174, q175, q176, q177, q178, q179, q180, q181, q182, q183, q184, q185]⟩
/- attestor/compose.combine -/
noncomputable def cf264 : HF := ⟨
(.seq (.reg [q8] fun c r s K => K [U0] s)
 (.seq (.reg [q9] fun c r s K => K [U0] s)
 (.seq (.seq (.reg [q10] fun c r s K => lnS (r q1) fun v0 => binK .sub v0 I1 fun v1 => K [v1] s)
 (.block n0 (.loop (.seq (.seq (.reg [q15] fun c r s K => binK .geq (r q10) I0 fun v0 => K [v0] s)
 (.cond (.t q15) .skip
 (.exit n0)))
 (.seq (.block n1 (.drw [q9] fun c r s K => (fun z m => dw3 m n16 n14 s (fun s q => c n138 [(r q0), (r q9), (r q3)] s q) fun v0 m s => ixs n1 (r q1) (r q10) fun v1 => dL z m (nat_lit 512) (nat_lit 448) s v1 fun v2 m s => ixs n1 (r q2) (r q10) fun v3 => dL z m (nat_lit 8192) (nat_lit 7168) s v3 fun v4 m s => dw3 m (nat_lit 16384) (nat_lit 16382) s (fun s q => c n138 [(r q0), v2, v4] s q) fun v5 m s => dw3 m (nat_lit 32768) (nat_lit 32767) s (fun s q => c n137 [(r q0), v0, v5] s q) fun v6 m s => K [v6] s) s.next mk0))
 (.reg [q10] fun c r s K => binK .sub (r q10) I1 fun v0 => K [v0] s))))))
 (.seq (.reg [q8] fun c r s K => K [(r q9)] s)
 .ret)))), [(.tmp q8)], [q0, q1, q2, q3], [q11, q12, q13, q14, q18, q19, q20, q21, q22, q23, q24, q25, q26, q27, q28, q29, q30, q31, q32, q33, q16, q17, q34]⟩
/- attestor/constraints.Values -/
noncomputable def cf263 : HF := ⟨
(.seq (.reg [q2, q3, q4, q5] fun c r s K => bxx s (r q0) fun v0 s => bxx s (r q1) fun v1 s => K [v0, v1, (.sc zn), I0] s)
 (.seq (.reg [q6] fun c r s K => fad n0 (r q2) fun v0 => ld s v0 fun v1 => K [v1] s)
 (.seq (.reg [q7] fun c r s K => fad n5 (r q2) fun v0 => ld s v0 fun v1 => lnS v1 fun v2 => fad n6 (r q2) fun v3 => ld s v3 fun v4 => lnS v4 fun v5 => fad n7 (r q2) fun v6 => ld s v6 fun v7 => lnS v7 fun v8 => binK .add v5 v8 fun v9 => binK .mul I2 v9 fun v10 => binK .add v2 v10 fun v11 => xM n1 n8 [zu] I0 v11 c r s fun v12 s => K [v12] s)
 (.seq (.seq (.reg [q42, q43, q44] fun c r s K => fad n5 (r q2) fun v0 => ld s v0 fun v1 => lnS v1 fun v2 => K [v1, v2, I0] s)
 (.block n0 (.loop (.seq (.reg [q45] fun c r s K => binK .lss (r q44) (r q43) fun v0 => K [v0] s)
 (.seq (.cond (.t q45) .skip
 (.exit n0))
 (.seq (.block n1 (.seq (.reg [q9] fun c r s K => ixs n2 (r q42) (r q44) fun v0 => lN s n2 v0 fun v1 => alc s [zb, zn] fun v2 s => sto s n2 v2 v1 fun s => K [v2] s)
 (.seq (.reg [q10, q11] fun c r s K => fad n1 (r q9) fun v0 => ld s v0 fun v1 => lN s n7 (r q3) fun v2 => c (nat_lit 245) [(r q6), v1, v2] s fun v3 s => xE n0 v3 c r s fun v4 s => xE n1 v3 c r s fun v5 s => K [v4, v5] s)
 (.seq (.seq (.reg [q57] fun c r s K => binK .neq (r q11) I0 fun v0 => K [v0] s)
 (.cond (.t q57) (.seq (.reg [q4, q5] fun c r s K => K [(.sc zn), (r q11)] s)
 .ret)
 .skip))
 (.reg [q7] fun c r s K => h_op3_buildS n1 n1 [zu] [(n0, n1, (.c (r q10)))] c r s fun v0 s => xA n1 n8 (r q7) v0 c r s fun v1 s => K [v1] s)))))
 (.reg [q44] fun c r s K => binK .add (r q44) I1 fun v0 => K [v0] s)))))))
 (.seq (.reg [q12] fun c r s K => fad n6 (r q2) fun v0 => ld s v0 fun v1 => lnS v1 fun v2 => fad n7 (r q2) fun v3 => ld s v3 fun v4 => lnS v4 fun v5 => binK .add v2 v5 fun v6 => K [v6] s)
 (.seq (.seq (.reg [q72] fun c r s K => binK .eql (r q12) I0 fun v0 => K [v0] s)
 (.cond (.t q72) (.seq (.reg [q4, q5] fun c r s K => K [(r q7), I0] s)
 .ret)
 .skip))
 (.seq (.seq (.reg [q105] fun c r s K => fad n0 (r q3) fun v0 => ld s v0 fun v1 => lnS v1 fun v2 => fad n2 (r q2) fun v3 => ld s v3 fun v4 => binK .lss v2 v4 fun v5 => jf v5 (fad n2 (r q3)) s fun v6 s => jf v5 (ld s v6) s fun v7 s => jf v5 (lnS v7) s fun v8 s => jf v5 (fad n4 (r q2)) s fun v9 s => jf v5 (ld s v9) s fun v10 s => jf v5 (lnS v10) s fun v11 s => jf v5 (binK .lss v8 v11) s fun v12 s => pck v5 tt v12 fun v13 => jf v13 (fad n4 (r q3)) s fun v14 s => jf v13 (ld s v14) s fun v15 s => jf v13 (lnS v15) s fun v16 s => jf v13 (fad n5 (r q3)) s fun v17 s => jf v13 (ld s v17) s fun v18 s => jf v13 (lnS v18) s fun v19 s => jn false v13 (fun j => h_op4_minmax false [(.c v16), (.c v19)] c r s j) s fun v20 s => mf v13 (r q12) s fun v21 s => jf v13 (binK .lss v20 v21) s fun v22 s => pck v13 tt v22 fun v23 => jf v23 (fad n6 (r q3)) s fun v24 s => jf v23 (ld s v24) s fun v25 s => jf v23 (lnS v25) s fun v26 s => jf v23 (binK .lss v26 I2) s fun v27 s => pck v23 tt v27 fun v28 => K [v28] s)
 (.cond (.t q105) (.seq (.reg [q4, q5] fun c r s K => K [(.sc zn), I2] s)
 .ret)
 .skip))
 (.seq (.drw [q13] fun c r s K => (fun z m => fad n0 (r q3) fun v0 => dL z m n4 n2 s v0 fun v1 m s => fad n2 (r q3) fun v2 => dL z m n16 n8 s v2 fun v3 m s => fad n6 (r q3) fun v4 => dL z m n64 n32 s v4 fun v5 m s => ixs n1 v5 I0 fun v6 => dL z m (nat_lit 256) (nat_lit 224) s v6 fun v7 m s => fad n6 (r q3) fun v8 => dL z m (nat_lit 1024) (nat_lit 512) s v8 fun v9 m s => ixs n1 v9 I1 fun v10 => dL z m (nat_lit 4096) (nat_lit 3584) s v10 fun v11 m s => h_op3_build [zi, zn, zn, zu, zu] [(n0, n1, (.c (r q6))), (n1, n1, (.c v1)), (n2, n1, (.c v3)), (n3, n1, (.c v7)), (n4, n1, (.c v11))] c r s fun v12 s => dw1 m (nat_lit 16384) (fun q => alc s [zi, zn, zn, zu, zu] q) fun v13 m s => dS z m (nat_lit 32768) (nat_lit 32767) s n5 v13 v12 fun _ m s => K [v13] s) s.next mk0)
 (.seq (.seq (.reg [q121, q122, q123] fun c r s K => fad n6 (r q2) fun v0 => ld s v0 fun v1 => lnS v1 fun v2 => K [v1, v2, I0] s)
 (.block n2 (.loop (.seq (.reg [q124] fun c r s K => binK .lss (r q123) (r q122) fun v0 => K [v0] s)
 (.seq (.cond (.t q124) .skip
 (.exit n2))
 (.seq (.block n3 (.seq (.reg [q15, q14] fun c r s K => ixs n2 (r q121) (r q123) fun v0 => lN s n2 v0 fun v1 => alc s [zn, zn] fun v2 s => sto s n2 v2 v1 fun s => K [v2, (r q123)] s)
 (.seq (.drw [q16, q17] fun c r s K => (fun z m => fad n4 (r q3) fun v0 => dL z m n2 n1 s v0 fun v1 m s => ixs n1 v1 (r q14) fun v2 => dL z m n16 n15 s v2 fun v3 m s => fad n5 (r q3) fun v4 => dL z m n64 n32 s v4 fun v5 m s => ixs n1 v5 (r q14) fun v6 => dL z m (nat_lit 512) (nat_lit 480) s v6 fun v7 m s => K [v3, v7] s) s.next mk0)
 (.drw [q7] fun c r s K => (fun z m => dN z m n16 n0 s n5 (r q13) fun v0 m s => fad n1 (r q15) fun v1 => dL z m n64 n32 s v1 fun v2 m s => dw3 m n128 n112 s (fun s q => c (nat_lit 250) [v0, v2] s q) fun v3 m s => dw3 m (nat_lit 256) (nat_lit 252) s (fun s q => c n138 [(r q6), (r q17), v3] s q) fun v4 m s => dN z m (nat_lit 2048) n0 s n5 (r q13) fun v5 m s => fad n0 (r q15) fun v6 => dL z m (nat_lit 8192) (nat_lit 4096) s v6 fun v7 m s => dw3 m (nat_lit 16384) (nat_lit 14844) s (fun s q => c (nat_lit 250) [v5, v7] s q) fun v8 m s => dw3 m (nat_lit 32768) (nat_lit 32764) s (fun s q => c n138 [(r q6), (r q16), v8] s q) fun v9 m s => dw1 m (nat_lit 65536) (fun q => h_op3_buildS n1 n1 [zu] [(n0, n1, (.c v9))] c r s q) fun v10 m s => dw3 m (nat_lit 131072) (nat_lit 131070) s (fun s q => c (nat_lit 359) [(r q6), v4, v10] s q) fun v11 m s => dw1 m (nat_lit 1048576) (fun q => h_op3_buildS n1 n1 [zu] [(n0, n1, (.c U1))] c r s q) fun v12 m s => dw3 m (nat_lit 2097152) (nat_lit 2097150) s (fun s q => c (nat_lit 359) [(r q6), (r q16), v12] s q) fun v13 m s => dw1 m (nat_lit 4194304) (fun q => h_op3_buildS n2 n1 [zu, zu] [(n0, n1, (.c v11)), (n1, n1, (.c v13))] c r s q) fun v14 m s => dw5 z m (nat_lit 8388608) (nat_lit 8388607) s (.more (.more (.append n1 n8 (.c (r q7)) (.c v14)))) r (fun s q => xA n1 n8 (r q7) v14 c r s q) fun v15 m s => K [v15] s) s.next mk0))))
 (.reg [q123] fun c r s K => binK .add (r q123) I1 fun v0 => K [v0] s)))))))
 (.seq (.seq (.reg [q164, q165, q166] fun c r s K => fad n7 (r q2) fun v0 => ld s v0 fun v1 => lnS v1 fun v2 => K [v1, v2, I0] s)
 (.block n4 (.loop (.seq (.reg [q167] fun c r s K => binK .lss (r q166) (r q165) fun v0 => K [v0] s)
 (.seq (.cond (.t q167) .skip
 (.exit n4))
 (.seq (.block n5 (.seq (.reg [q19, q18] fun c r s K => ixs n4 (r q164) (r q166) fun v0 => lN s n4 v0 fun v1 => alc s [zn, zn, zb, zi] fun v2 s => sto s n4 v2 v1 fun s => K [v2, (r q166)] s)
 (.seq (.drw [q20, q21] fun c r s K => (fun z m => fad n4 (r q3) fun v0 => dL z m n2 n1 s v0 fun v1 m s => fad n6 (r q2) fun v2 => dL z m n8 n4 s v2 fun v3 m s => lnS v3 fun v4 => binK .add v4 (r q18) fun v5 => ixs n1 v1 v5 fun v6 => dL z m (nat_lit 256) (nat_lit 255) s v6 fun v7 m s => fad n5 (r q3) fun v8 => dL z m (nat_lit 1024) (nat_lit 512) s v8 fun v9 m s => fad n6 (r q2) fun v10 => dL z m (nat_lit 4096) (nat_lit 2048) s v10 fun v11 m s => lnS v11 fun v12 => binK .add v12 (r q18) fun v13 => ixs n1 v9 v13 fun v14 => dL z m (nat_lit 131072) (nat_lit 130560) s v14 fun v15 m s => K [v7, v15] s) s.next mk0)
 (.seq (.drw [q22, q23] fun c r s K => (fun z m => dN z m n1 n0 s n5 (r q13) fun v0 m s => fad n0 (r q19) fun v1 => dL z m n4 n2 s v1 fun v2 m s => dw3 m n8 n7 s (fun s q => c (nat_lit 255) [v0, v2] s q) fun v3 m s => dN z m n16 n0 s n5 (r q13) fun v4 m s => fad n1 (r q19) fun v5 => dL z m n64 n32 s v5 fun v6 m s => dw3 m n128 n127 s (fun s q => c (nat_lit 255) [v4, v6] s q) fun v7 m s => K [v3, v7] s) s.next mk0)
 (.seq (.reg [q24] fun c r s K => h_op3_buildS n1 n1 [zu] [(n0, n1, (.c (r q20)))] c r s fun v0 s => c (nat_lit 359) [(r q6), (r q21), v0] s fun v1 s => c n138 [(r q6), (r q22), (r q23)] s fun v2 s => c n138 [(r q6), v1, v2] s fun v3 s => K [v3] s)
 (.seq (.reg [q25] fun c r s K => fad n0 (r q3) fun v0 => ld s v0 fun v1 => fad n2 (r q19) fun v2 => fad n1 v2 fun v3 => ld s v3 fun v4 => ixs n1 v1 v4 fun v5 => ld s v5 fun v6 => c n138 [(r q6), v6, (r q22)] s fun v7 s => K [v7] s)
 (.reg [q7] fun c r s K => c n137 [(r q6), (r q24), (r q25)] s fun v0 s => h_op3_buildS n1 n1 [zu] [(n0, n1, (.c (r q23)))] c r s fun v1 s => c (nat_lit 359) [(r q6), v0, v1] s fun v2 s => h_op3_buildS n1 n1 [zu] [(n0, n1, (.c U0))] c r s fun v3 s => c (nat_lit 359) [(r q6), (r q20), v3] s fun v4 s => h_op3_buildS n2 n1 [zu, zu] [(n0, n1, (.c v2)), (n1, n1, (.c v4))] c r s fun v5 s => xA n1 n8 (r q7) v5 c r s fun v6 s => K [v6] s)))))))
 (.reg [q166] fun c r s K => binK .add (r q166) I1 fun v0 => K [v0] s)))))))
 (.seq (.reg [q4, q5] fun c r s K => K [(r q7), I0] s)
 .ret))))))))))), [(.tmp q4), (.tmp q5)], [q0, q1], [q26, q27, q28, q29, q30, q31, q32, q33, q34, q35, q36, q37, q38, q39, q40, q41, q46, q47, q49, q50, q51, q52, q53, q48, q54, q55, q56, q58, q59, q60, q61, q62, q63, q64, q65, q66, q67, q68, q69, q70, q71, q73, q74, q75, q76, q77, q78, q79, q80, q81, q82, q83, q84, q85, q86, q87, q88, q89, q90, q91, q92, q93, q94, q95, q96, q97, q98, q99, q100, q101, q102, q103, q104, q106, q107, q108, q109, q110, q111, q112, q113, q114, q115, q116, q117, q118, q119, q120, q125, q126, q127, q128, q129, q130, q131, q132, q133, q134, q135, q136, q137, q138, q139, q140, q141, q142, q143, q144, q145, q146, q147, q148, q149, q150, q151, q152, q153, q154, q155, q156, q157, q158, q159, q160, q161, q162, q163, q168, q169, q170, q171, q172, q173, q174, q175, q176, q177, q178, q179, q180, q181, q182, q183, q184, q185, q186, q187, q188, q189, q190, q191, q192, q193, q194, q195, q196, q197, q198, q199, q200, q201, q202, q203, q204, q205, q206, q207, q208, q209, q210, q211, q212, q213, q214, q215, q216, q217, q218, q219, q220, q221, q222, q223, q224, q225, q226, q227, q228, q229, q230, q231, q232, q233, q234]⟩
/- (attestor/constraints.Row).Weight -/
noncomputable def cf255 : HF := ⟨
(.seq (.reg [q2, q4] fun c r s K => bxx s (r q0) fun v0 s => K [v0, U0] s)
 (.seq (.reg [q5] fun c r s K => alc s [zu, zu, zu, zu] fun v0 s => K [v0] s)
 (.seq (.seq (.reg [q8, q9, q10] fun c r s K => lnS (r q1) fun v0 => K [(r q1), v0, I0] s)
 (.block n0 (.loop (.seq (.reg [q11] fun c r s K => binK .lss (r q10) (r q9) fun v0 => K [v0] s)
 (.seq (.cond (.t q11) .skip
 (.exit n0))
 (.seq (.block n1 (.seq (.reg [q7, q6] fun c r s K => ixs n2 (r q8) (r q10) fun v0 => lN s n2 v0 fun v1 => alc s [zb, zi] fun v2 s => sto s n2 v2 v1 fun s => K [v2, (r q10)] s)
 (.seq (.reg [q17] fun c r s K => fad n0 (r q7) fun v0 => ld s v0 fun v1 => binK .eql v1 B3 fun v2 => K [v2] s)
 (.cond (.t q17) (.reg [] fun c r s K => fad n2 (r q2) fun v0 => ld s v0 fun v1 => fad n1 (r q7) fun v2 => ld s v2 fun v3 => ixs n1 v1 v3 fun v4 => ld s v4 fun v5 => ixA n4 n1 (r q5) (r q6) fun v6 => sto s n1 v6 v5 fun s => K [] s)
 (.reg [] fun c r s K => fad n1 (r q2) fun v0 => ld s v0 fun v1 => fad n1 (r q7) fun v2 => ld s v2 fun v3 => ixs n1 v1 v3 fun v4 => ld s v4 fun v5 => ixA n4 n1 (r q5) (r q6) fun v6 => sto s n1 v6 v5 fun s => K [] s)))))
 (.reg [q10] fun c r s K => binK .add (r q10) I1 fun v0 => K [v0] s)))))))
 (.seq (.drw [q4] fun c r s K => (fun z m => fad n0 (r q2) fun v0 => dL z m n2 n1 s v0 fun v1 m s => lnS (r q1) fun v2 => dw2 z m n16 n12 (r q5) (fun q => h_op3_sliceA n4 n1 (.c (r q5)) none (some (.c v2)) none c r s q) fun v3 m s => fad n3 (r q2) fun v4 => dL z m n64 n32 s v4 fun v5 m s => fad n4 (r q2) fun v6 => dL z m (nat_lit 256) n128 s v6 fun v7 m s => dw3 m (nat_lit 512) (nat_lit 511) s (fun s q => c (nat_lit 358) [v1, v3, v5, v7] s q) fun v8 m s => K [v8] s) s.next mk0)
 .ret)))), [(.tmp q4)], [q0, q1], [q12, q13, q14, q15, q16, q18, q19, q20, q21, q22, q23, q24, q25, q26, q27, q28, q29, q30, q31, q32, q33, q34, q35, q36, q37, q38, q39, q40, q41, q42, q43, q44]⟩
/- attestor/constraints.Weight -/
noncomputable def cf358 : HF := ⟨
(.seq (.reg [q4, q7, q8] fun c r s K => bxx s (r q0) fun v0 s => bxx s (r q3) fun v1 s => K [v0, v1, U0] s)
 (.seq (.reg [q9] fun c r s K => alc s [zu] fun v0 s => K [v0] s)
 (.seq (.seq (.reg [q13] fun c r s K => c (nat_lit 321) [(r q1)] s fun v0 s => K [v0] s)
 (.block n0 (.rng (nat_lit 358) n0 (.t q13) [q14, q15] (.reg [q11] fun c r s K => K [(r q15)] s)
 (.block n1 (.drw [] fun c r s K => (fun z m => dL z m n1 n0 s (r q4) fun v0 m s => dL z m n2 n0 s (r q4) fun v1 m s => dL z m n4 n0 s (r q9) fun v2 m s => dL z m n8 n0 s (r q7) fun v3 m s => dw3 m n16 n14 s (fun s q => c n138 [v1, v2, v3] s q) fun v4 m s => dw3 m n64 n63 s (fun s q => c n137 [v0, v4, (r q11)] s q) fun v5 m s => dS z m n128 n127 s n1 (r q9) v5 fun _ m s => K [] s) s.next mk0)))))
 (.seq (.reg [q8] fun c r s K => ld s (r q4) fun v0 => ld s (r q9) fun v1 => c n137 [v0, v1, (r q2)] s fun v2 s => K [v2] s)
 .ret)))), [(.tmp q8)], [q0, q1, q2, q3], [q12, q16, q17, q18, q19, q20, q21, q22, q23, q24, q25, q26]⟩
/- slices.Backward[[]uint64,uint64] -/
noncomputable def cf321 : HF := ⟨
(.seq (.reg [q1, q2] fun c r s K => bxx s (r q0) fun v0 s => K [v0, (.sc (.lit .nilFunc))] s)
 (.seq (.reg [q2] fun c r s K => h_op4_makeFunc (nat_lit 386) [(.c (r q1))] c r s fun v0 s => K [v0] s)
 .ret)), [(.tmp q2)], [q0], [q3]⟩
/- slices.Backward[[]uint64,uint64]$1 -/
noncomputable def cf386 : HF := ⟨
(.seq (.reg [q3] fun c r s K => ld s (r q1) fun v0 => lnS v0 fun v1 => binK .sub v1 I1 fun v2 => K [v2] s)
 (.block n0 (.loop (.seq (.seq (.reg [q8] fun c r s K => binK .geq (r q3) I0 fun v0 => K [v0] s)
 (.cond (.t q8) .skip
 (.exit n0)))
 (.seq (.block n1 (.seq (.reg [q18] fun c r s K => ld s (r q1) fun v0 => ixs n1 v0 (r q3) fun v1 => ld s v1 fun v2 => h_op4_callV (.c (r q0)) [(.c (r q3)), (.c v2)] c r s fun v3 s => nott v3 fun v4 => K [v4] s)
 (.cond (.t q18) .ret
 .skip)))
 (.reg [q3] fun c r s K => binK .sub (r q3) I1 fun v0 => K [v0] s)))))), [], [q0, q1], [q4, q5, q6, q7, q11, q12, q13, q14, q15, q16, q17, q9, q10]⟩
/- attestor/constraints.Total -/
noncomputable def cf359 : HF := ⟨
(.seq (.reg [q6] fun c r s K => K [U0] s)
 (.seq (.seq (.reg [q9, q10, q11] fun c r s K => lnS (r q2) fun v0 => K [(r q2), v0, I0] s)
 (.block n0 (.loop (.seq (.reg [q12] fun c r s K => binK .lss (r q11) (r q10) fun v0 => K [v0] s)
 (.seq (.cond (.t q12) .skip
 (.exit n0))
 (.seq (.block n1 (.seq (.reg [q8] fun c r s K => ixs n1 (r q9) (r q11) fun v0 => ld s v0 fun v1 => K [v1] s)
 (.reg [q1] fun c r s K => c (nat_lit 346) [(r q0), (r q1), (r q8)] s fun v0 s => K [v0] s)))
 (.reg [q11] fun c r s K => binK .add (r q11) I1 fun v0 => K [v0] s)))))))
 (.seq (.reg [q6] fun c r s K => K [(r q1)] s)
 .ret))), [(.tmp q6)], [q0, q1, q2], [q13, q14, q15, q16, q17, q18, q19, q20]⟩
/- (attestor/constraints.Row).Product -/
noncomputable def cf250 : HF := ⟨
(.seq (.reg [q2, q4] fun c r s K => bxx s (r q0) fun v0 s => K [v0, U0] s)
 (.seq (.reg [q5] fun c r s K => K [U1] s)
 (.seq (.seq (.reg [q8, q9, q10] fun c r s K => lnS (r q1) fun v0 => K [(r q1), v0, I0] s)
 (.block n0 (.loop (.seq (.reg [q11] fun c r s K => binK .lss (r q10) (r q9) fun v0 => K [v0] s)
 (.seq (.cond (.t q11) .skip
 (.exit n0))
 (.seq (.block n1 (.seq (.reg [q7] fun c r s K => ixs n1 (r q8) (r q10) fun v0 => ld s v0 fun v1 => K [v1] s)
 (.drw [q5] fun c r s K => (fun z m => fad n0 (r q2) fun v0 => dL z m n2 n1 s v0 fun v1 m s => dN z m n8 n0 s n5 (r q2) fun v2 m s => dw3 m n32 n24 s (fun s q => c (nat_lit 255) [v2, (r q7)] s q) fun v3 m s => dw3 m n64 n63 s (fun s q => c n138 [v1, (r q5), v3] s q) fun v4 m s => K [v4] s) s.next mk0)))
 (.reg [q10] fun c r s K => binK .add (r q10) I1 fun v0 => K [v0] s)))))))
 (.seq (.reg [q4] fun c r s K => K [(r q5)] s)
 .ret)))), [(.tmp q4)], [q0, q1], [q12, q13, q14, q15, q16, q17, q18, q19, q20, q21, q22]⟩
/- attestor/mono.Value -/
noncomputable def cf245 : HF := ⟨
(.seq (.reg [q5, q6, q7] fun c r s K => bxx s (r q2) fun v0 s => K [v0, U0, I0] s)
 (.seq (.seq (.reg [q17] fun c r s K => c (nat_lit 181) [(r q0)] s fun v0 s => nott v0 fun v1 => K [v1] s)
 (.cond (.t q17) (.seq (.reg [q6, q7] fun c r s K => K [U0, I1] s)
 .ret)
 .skip))
 (.seq (.reg [q8] fun c r s K => K [U0] s)
 (.seq (.seq (.reg [q18, q19, q20] fun c r s K => lnS (r q1) fun v0 => K [(r q1), v0, I0] s)
 (.block n0 (.loop (.seq (.reg [q21] fun c r s K => binK .lss (r q20) (r q19) fun v0 => K [v0] s)
 (.seq (.cond (.t q21) .skip
 (.exit n0))
 (.seq (.block n1 (.seq (.reg [q10] fun c r s K => ixs n2 (r q18) (r q20) fun v0 => lN s n2 v0 fun v1 => alc s [zu, zn] fun v2 s => sto s n2 v2 v1 fun s => K [v2] s)
 (.seq (.reg [q11] fun c r s K => fad n0 (r q10) fun v0 => ld s v0 fun v1 => c n137 [(r q0), v1, U0] s fun v2 s => K [v2] s)
 (.seq (.seq (.reg [q29, q30, q31] fun c r s K => fad n1 (r q10) fun v0 => ld s v0 fun v1 => lnS v1 fun v2 => K [v1, v2, I0] s)
 (.block n2 (.loop (.seq (.reg [q32] fun c r s K => binK .lss (r q31) (r q30) fun v0 => K [v0] s)
 (.seq (.cond (.t q32) .skip
 (.exit n2))
 (.seq (.block n3 (.seq (.reg [q13] fun c r s K => ixs n2 (r q29) (r q31) fun v0 => lN s n2 v0 fun v1 => alc s [zb, zi] fun v2 s => sto s n2 v2 v1 fun s => K [v2] s)
 (.seq (.reg [q14] fun c r s K => fad n0 (r q13) fun v0 => ld s v0 fun v1 => lN s n7 (r q5) fun v2 => c (nat_lit 354) [v1, v2] s fun v3 s => K [v3] s)
 (.seq (.seq (.reg [q48] fun c r s K => fad n1 (r q13) fun v0 => ld s v0 fun v1 => binK .lss v1 I0 fun v2 => jf v2 (fad n1 (r q13)) s fun v3 s => jf v2 (ld s v3) s fun v4 s => mf v2 (r q14) s fun v5 s => jf v2 (lnS v5) s fun v6 s => jf v2 (binK .geq v4 v6) s fun v7 s => pck v2 tt v7 fun v8 => K [v8] s)
 (.cond (.t q48) (.seq (.reg [q6, q7] fun c r s K => K [U0, I2] s)
 .ret)
 .skip))
 (.reg [q11] fun c r s K => fad n1 (r q13) fun v0 => ld s v0 fun v1 => ixs n1 (r q14) v1 fun v2 => ld s v2 fun v3 => c n138 [(r q0), (r q11), v3] s fun v4 s => K [v4] s)))))
 (.reg [q31] fun c r s K => binK .add (r q31) I1 fun v0 => K [v0] s)))))))
 (.reg [q8] fun c r s K => c n137 [(r q0), (r q8), (r q11)] s fun v0 s => K [v0] s)))))
 (.reg [q20] fun c r s K => binK .add (r q20) I1 fun v0 => K [v0] s)))))))
 (.seq (.reg [q6, q7] fun c r s K => K [(r q8), I0] s)
 .ret))))), [(.tmp q6), (.tmp q7)], [q0, q1, q2], [q15, q16, q22, q23, q24, q25, q26, q27, q28, q33, q34, q35, q36, q37, q38, q39, q40, q41, q42, q43, q44, q45, q46, q47, q49, q50, q51, q52, q53, q54, q55, q56, q57, q58, q59, q60, q61, q62, q63]⟩
/- attestor/mono.list -/
noncomputable def cf354 : HF := ⟨
(.seq (.reg [q3, q4] fun c r s K => bxx s (r q1) fun v0 s => K [v0, (.sc zn)] s)
 (.seq (.seq (.reg [q5] fun c r s K => K [(r q0)] s)
 (.block n0 (.seq (.reg [q6] fun c r s K => binK .eql (r q5) B1 fun v0 => K [v0] s)
 (.cond (.t q6) (.seq (.reg [q4] fun c r s K => fad n0 (r q3) fun v0 => ld s v0 fun v1 => K [v1] s)
 .ret)
 (.seq (.reg [q10] fun c r s K => binK .eql (r q5) B2 fun v0 => K [v0] s)
 (.cond (.t q10) (.seq (.reg [q4] fun c r s K => fad n1 (r q3) fun v0 => ld s v0 fun v1 => K [v1] s)
 .ret)
 (.seq (.reg [q14] fun c r s K => binK .eql (r q5) B3 fun v0 => K [v0] s)
 (.cond (.t q14) (.seq (.reg [q4] fun c r s K => fad n2 (r q3) fun v0 => ld s v0 fun v1 => K [v1] s)
 .ret)
 (.seq (.reg [q18] fun c r s K => binK .eql (r q5) B4 fun v0 => K [v0] s)
 (.cond (.t q18) (.seq (.reg [q4] fun c r s K => fad n3 (r q3) fun v0 => ld s v0 fun v1 => K [v1] s)
 .ret)
 (.seq (.reg [q22] fun c r s K => binK .eql (r q5) B5 fun v0 => K [v0] s)
 (.cond (.t q22) (.seq (.reg [q4] fun c r s K => fad n4 (r q3) fun v0 => ld s v0 fun v1 => K [v1] s)
 .ret)
 (.seq (.reg [q26] fun c r s K => binK .eql (r q5) B6 fun v0 => K [v0] s)
 (.cond (.t q26) (.seq (.reg [q4] fun c r s K => fad n5 (r q3) fun v0 => ld s v0 fun v1 => K [v1] s)
 .ret)
 (.seq (.reg [q30] fun c r s K => binK .eql (r q5) B7 fun v0 => K [v0] s)
 (.cond (.t q30) (.seq (.reg [q4] fun c r s K => fad n6 (r q3) fun v0 => ld s v0 fun v1 => K [v1] s)
 .ret)
 .skip))))))))))))))))
 (.seq (.reg [q4] fun c r s K => K [(.sc zn)] s)
 .ret))), [(.tmp q4)], [q0, q1], [q7, q8, q9, q11, q12, q13, q15, q16, q17, q19, q20, q21, q23, q24, q25, q27, q28, q29, q31, q32, q33]⟩
/- attestor/compose.values$1 -/
noncomputable def cf262 : HF := ⟨
(.seq (.reg [q5] fun c r s K => K [(.sc zn)] s)
 (.seq (.reg [q6] fun c r s K => lnS (r q0) fun v0 => xM n1 n8 [zu] v0 v0 c r s fun v1 s => K [v1] s)
 (.seq (.seq (.reg [q12, q13] fun c r s K => lnS (r q0) fun v0 => K [v0, I0] s)
 (.block n0 (.loop (.seq (.reg [q14] fun c r s K => binK .lss (r q13) (r q12) fun v0 => K [v0] s)
 (.seq (.cond (.t q14) .skip
 (.exit n0))
 (.seq (.block n1 (.seq (.reg [q7] fun c r s K => K [(r q13)] s)
 (.drw [] fun c r s K => (fun z m => ixs n1 (r q0) (r q7) fun v0 => dL z m n32 n28 s v0 fun v1 m s => dL z m n128 n0 s (r q2) fun v2 m s => binK .rem (r q1) v2 fun v3 => ixs n1 v1 v3 fun v4 => dL z m (nat_lit 1024) (nat_lit 1020) s v4 fun v5 m s => ixs n1 (r q6) (r q7) fun v6 => dS z m (nat_lit 4096) (nat_lit 4095) s n1 v6 v5 fun _ m s => K [] s) s.next mk0)))
 (.reg [q13] fun c r s K => binK .add (r q13) I1 fun v0 => K [v0] s)))))))
 (.seq (.reg [q5] fun c r s K => K [(r q6)] s)
 .ret)))), [(.tmp q5)], [q0, q1, q2], [q8, q9, q10, q11, q15, q16, q17, q18, q19, q20, q21, q22, q23, q24, q25, q26, q27, q28, q29]⟩
/- attestor/field.Inverses -/
noncomputable def cf252 : HF := ⟨
(.seq (.reg [q4] fun c r s K => K [(.sc zn)] s)
 (.seq (.reg [q5] fun c r s K => c n85 [(r q0)] s fun v0 s => K [v0] s)
 (.seq (.seq (.reg [q15] fun c r s K => binK .eql (r q5) U0 fun v0 => K [v0] s)
 (.cond (.t q15) (.seq (.reg [q4] fun c r s K => K [(.sc zn)] s)
 .ret)
 .skip))
 (.seq (.reg [q6] fun c r s K => lnS (r q1) fun v0 => xM n1 n8 [zu] v0 v0 c r s fun v1 s => K [v1] s)
 (.seq (.reg [q7] fun c r s K => K [U1] s)
 (.seq (.seq (.reg [q20, q21] fun c r s K => lnS (r q1) fun v0 => K [v0, I0] s)
 (.block n0 (.loop (.seq (.reg [q22] fun c r s K => binK .lss (r q21) (r q20) fun v0 => K [v0] s)
 (.seq (.cond (.t q22) .skip
 (.exit n0))
 (.seq (.block n1 (.seq (.reg [q8] fun c r s K => K [(r q21)] s)
 (.seq (.reg [] fun c r s K => ixs n1 (r q6) (r q8) fun v0 => sto s n1 v0 (r q7) fun s => K [] s)
 (.seq (.reg [q34] fun c r s K => ixs n1 (r q1) (r q8) fun v0 => ld s v0 fun v1 => binK .rem v1 (r q5) fun v2 => binK .neq v2 U0 fun v3 => K [v3] s)
 (.cond (.t q34) (.reg [q7] fun c r s K => ixs n1 (r q1) (r q8) fun v0 => ld s v0 fun v1 => c n138 [(r q0), (r q7), v1] s fun v2 s => K [v2] s)
 .skip)))))
 (.reg [q21] fun c r s K => binK .add (r q21) I1 fun v0 => K [v0] s)))))))
 (.seq (.reg [q9] fun c r s K => c (nat_lit 218) [(r q0), (r q7)] s fun v0 s => K [v0] s)
 (.seq (.seq (.reg [q47, q48] fun c r s K => lnS (r q1) fun v0 => K [v0, I0] s)
 (.block n2 (.loop (.seq (.reg [q49] fun c r s K => binK .lss (r q48) (r q47) fun v0 => K [v0] s)
 (.seq (.cond (.t q49) .skip
 (.exit n2))
 (.seq (.block n3 (.seq (.reg [q10] fun c r s K => K [(r q48)] s)
 (.seq (.reg [q11] fun c r s K => lnS (r q1) fun v0 => binK .sub v0 I1 fun v1 => binK .sub v1 (r q10) fun v2 => K [v2] s)
 (.seq (.seq (.reg [q62] fun c r s K => ixs n1 (r q1) (r q11) fun v0 => ld s v0 fun v1 => binK .rem v1 (r q5) fun v2 => binK .eql v2 U0 fun v3 => K [v3] s)
 (.cond (.t q62) (.seq (.reg [] fun c r s K => ixs n1 (r q6) (r q11) fun v0 => sto s n1 v0 U0 fun s => K [] s)
 (.exit n3))
 .skip))
 (.seq (.reg [] fun c r s K => ixs n1 (r q6) (r q11) fun v0 => ld s v0 fun v1 => c n138 [(r q0), v1, (r q9)] s fun v2 s => ixs n1 (r q6) (r q11) fun v3 => sto s n1 v3 v2 fun s => K [] s)
 (.reg [q9] fun c r s K => ixs n1 (r q1) (r q11) fun v0 => ld s v0 fun v1 => c n138 [(r q0), (r q9), v1] s fun v2 s => K [v2] s))))))
 (.reg [q48] fun c r s K => binK .add (r q48) I1 fun v0 => K [v0] s)))))))
 (.seq (.reg [q4] fun c r s K => K [(r q6)] s)
 .ret))))))))), [(.tmp q4)], [q0, q1], [q12, q13, q14, q16, q17, q18, q19, q23, q24, q25, q26, q27, q28, q29, q30, q31, q32, q33, q35, q36, q37, q38, q39, q40, q41, q42, q43, q44, q45, q46, q50, q51, q52, q53, q54, q55, q56, q57, q58, q59, q60, q61, q63, q64, q65, q66, q67, q68, q69, q70, q71, q72, q73, q74, q75, q76, q77, q78, q79, q80, q81, q82, q83, q84]⟩
/- attestor/compose.Divisor -/
noncomputable def cf261 : HF := ⟨
(.seq (.reg [q8, q9] fun c r s K => K [U0, I0] s)
 (.seq (.seq (.reg [q16] fun c r s K => c (nat_lit 320) [(r q0), (r q1)] s fun v0 s => nott v0 fun v1 => K [v1] s)
 (.cond (.t q16) (.seq (.reg [q8, q9] fun c r s K => K [U0, I1] s)
 .ret)
 .skip))
 (.seq (.reg [q10] fun c r s K => xS true U1 (r q1) c r s fun v0 s => K [v0] s)
 (.seq (.reg [q11] fun c r s K => c (nat_lit 200) [(r q0), (r q1)] s fun v0 s => c (nat_lit 218) [(r q0), v0] s fun v1 s => K [v1] s)
 (.seq (.reg [q12] fun c r s K => c (nat_lit 199) [(r q0), (r q3), (r q10)] s fun v0 s => c (nat_lit 346) [(r q0), v0, U1] s fun v1 s => K [v1] s)
 (.seq (.seq (.reg [q30] fun c r s K => K [(r q2)] s)
 (.block n0 (.seq (.reg [q31] fun c r s K => binK .eql (r q30) B1 fun v0 => K [v0] s)
 (.cond (.t q31) (.seq (.reg [q8, q9] fun c r s K => K [(r q12), I0] s)
 .ret)
 (.seq (.reg [q34] fun c r s K => binK .eql (r q30) B3 fun v0 => K [v0] s)
 (.cond (.t q34) (.seq (.reg [q8, q9] fun c r s K => c (nat_lit 346) [(r q0), (r q3), U1] s fun v0 s => K [v0, I0] s)
 .ret)
 (.seq (.reg [q39] fun c r s K => binK .eql (r q30) B4 fun v0 => K [v0] s)
 (.cond (.t q39) (.seq (.reg [q8, q9] fun c r s K => c (nat_lit 346) [(r q0), (r q3), (r q11)] s fun v0 s => K [v0, I0] s)
 .ret)
 (.seq (.reg [q45] fun c r s K => binK .eql (r q30) B2 fun v0 => K [v0] s)
 (.cond (.t q45) (.seq (.seq (.reg [q51] fun c r s K => c (nat_lit 346) [(r q0), (r q3), (r q11)] s fun v0 s => binK .eql v0 U0 fun v1 => K [v1] s)
 (.cond (.t q51) (.seq (.reg [q8, q9] fun c r s K => binK .sub (r q10) U1 fun v0 => c (nat_lit 199) [(r q0), (r q11), v0] s fun v1 s => c n138 [(r q0), (r q10), v1] s fun v2 s => K [v2, I0] s)
 .ret)
 .skip))
 (.seq (.reg [q8, q9] fun c r s K => c (nat_lit 346) [(r q0), (r q3), (r q11)] s fun v0 s => c (nat_lit 362) [(r q0), (r q12), v0] s fun v1 s => K [v1, I0] s)
 .ret))
 .skip))))))))))
 (.seq (.reg [q8, q9] fun c r s K => K [U0, I1] s)
 .ret))))))), [(.tmp q8), (.tmp q9)], [q0, q1, q2, q3], [q13, q14, q15, q17, q18, q19, q20, q21, q22, q23, q24, q25, q26, q27, q28, q29, q32, q33, q35, q36, q37, q38, q40, q41, q42, q43, q44, q46, q47, q48, q49, q50, q52, q53, q54, q55, q56, q57, q58, q59, q60, q61, q62, q63, q64, q65, q66]⟩
/- attestor/field.Div -/
noncomputable def cf362 : HF := ⟨
(.seq (.reg [q6] fun c r s K => K [U0] s)
 (.seq (.reg [q6] fun c r s K => c (nat_lit 218) [(r q0), (r q2)] s fun v0 s => c n138 [(r q0), (r q1), v0] s fun v1 s => K [v1] s)
 .ret)), [(.tmp q6)], [q0, q1, q2], [q7, q8, q9, q10, q11, q12]⟩
/- attestor/compose.rowed -/
noncomputable def cf320 : HF := ⟨
(.seq (.reg [q4] fun c r s K => K [ff] s)
 (.seq (.reg [q4] fun c r s K => c (nat_lit 181) [(r q0)] s fun v0 s => mt v0 (r q1) s fun v1 s => jt v0 (binK .geq v1 I1) s fun v2 s => pck v0 v2 ff fun v3 => mt v3 (r q1) s fun v4 s => mt v3 (r q0) s fun v5 s => jn true v3 (fun j => c n119 [v5] s j) s fun v6 s => jn true v3 (fun j => h_op4_minmax false [(.c I13), (.c v6)] c r s j) s fun v7 s => jt v3 (binK .leq v4 v7) s fun v8 s => pck v3 v8 ff fun v9 => K [v9] s)
 .ret)), [(.tmp q4)], [q0, q1], [q5, q6, q7, q8, q9, q10, q11, q12, q13, q14, q15, q16, q17]⟩
/- attestor/argument.Ons -/
noncomputable def cf260 : HF := ⟨
(.seq (.reg [q1, q2] fun c r s K => bxx s (r q0) fun v0 s => K [v0, (.sc zn)] s)
 (.seq (.seq (.reg [q8] fun c r s K => lN s n8 (r q1) fun v0 => c n118 [v0] s fun v1 s => nott v1 fun v2 => K [v2] s)
 (.cond (.t q8) (.seq (.reg [q2] fun c r s K => K [(.sc zn)] s)
 .ret)
 .skip))
 (.seq (.reg [q3] fun c r s K => K [(.sc zn)] s)
 (.seq (.seq (.reg [q10, q11, q12] fun c r s K => fad n5 (r q1) fun v0 => ld s v0 fun v1 => lnS v1 fun v2 => K [v1, v2, I0] s)
 (.block n0 (.loop (.seq (.reg [q13] fun c r s K => binK .lss (r q12) (r q11) fun v0 => K [v0] s)
 (.seq (.cond (.t q13) .skip
 (.exit n0))
 (.seq (.block n1 (.seq (.reg [q5] fun c r s K => ixs n2 (r q10) (r q12) fun v0 => lN s n2 v0 fun v1 => alc s [zb, zn] fun v2 s => sto s n2 v2 v1 fun s => K [v2] s)
 (.reg [q3] fun c r s K => fad n0 (r q5) fun v0 => ld s v0 fun v1 => h_op3_buildS n1 n1 [zb] [(n0, n1, (.c v1))] c r s fun v2 s => xA n1 n1 (r q3) v2 c r s fun v3 s => K [v3] s)))
 (.reg [q12] fun c r s K => binK .add (r q12) I1 fun v0 => K [v0] s)))))))
 (.seq (.reg [q2] fun c r s K => h_op3_buildS n2 n1 [zb, zb] [(n0, n1, (.c B1)), (n1, n1, (.c B3))] c r s fun v0 s => fad n6 (r q1) fun v1 => ld s v1 fun v2 => lnS v2 fun v3 => fad n7 (r q1) fun v4 => ld s v4 fun v5 => lnS v5 fun v6 => binK .add v3 v6 fun v7 => c (nat_lit 361) [v0, v7] s fun v8 s => xA n1 n1 (r q3) v8 c r s fun v9 s => K [v9] s)
 .ret))))), [(.tmp q2)], [q0], [q6, q7, q9, q14, q15, q16, q17, q18, q19, q20, q21, q22, q23, q24, q25, q26, q27, q28, q29, q30, q31, q32]⟩
end Go.Proofs.YtebbnkahklbhiaaGreatDoor.Ev
