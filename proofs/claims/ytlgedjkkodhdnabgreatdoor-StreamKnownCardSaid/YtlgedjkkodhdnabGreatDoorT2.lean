/- Compiled functions of the translated program, and that each is what the compiler makes of it; no conditions. -/
import Derived.Test.YtlgedjkkodhdnabGreatDoorEvC
import Derived.KernelRfl
namespace Go.Proofs.YtlgedjkkodhdnabGreatDoor.Ev
set_option maxRecDepth 100000
set_option linter.unusedVariables false
/- (attestor/sponge.mixer).round -/
noncomputable def cf87 : HF := ⟨
(.seq (.reg [q3, q5, q6, q7] fun c r s K => bxx s (r q0) fun v0 s => bxx s (r q2) fun v1 s => alc s [zu, zu, zu, zu] fun v2 s => K [v0, v1, U0, v2] s)
 (.seq (.seq (.reg [q10] fun c r s K => K [I0] s)
 (.block n0 (.loop (.seq (.reg [q11] fun c r s K => binK .lss (r q10) I4 fun v0 => K [v0] s)
 (.seq (.cond (.t q11) .skip
 (.exit n0))
 (.seq (.block n1 (.seq (.reg [q8] fun c r s K => K [(r q10)] s)
 (.seq (.reg [q1] fun c r s K => fad n1 (r q3) fun v0 => ld s v0 fun v1 => binK .mul (r q1) v1 fun v2 => fad n0 (r q3) fun v3 => ld s v3 fun v4 => binK .rem v2 v4 fun v5 => K [v5] s)
 (.drw [] fun c r s K => (fun z m => dN z m n2 n0 s n3 (r q3) fun v0 m s => ixA n4 n1 (r q5) (r q8) fun v1 => dL z m n16 n12 s v1 fun v2 m s => binK .add v2 (r q1) fun v3 => binK .add v3 U7 fun v4 => fad n0 (r q3) fun v5 => dL z m (nat_lit 512) (nat_lit 256) s v5 fun v6 m s => binK .rem v4 v6 fun v7 => dw3 m (nat_lit 2048) (nat_lit 2046) s (fun s q => c n118 [v0, v7] s q) fun v8 m s => ixA n4 n1 (r q5) (r q8) fun v9 => dS z m (nat_lit 8192) (nat_lit 8191) s n1 v9 v8 fun _ m s => K [] s) s.next mk0))))
 (.reg [q10] fun c r s K => binK .add (r q10) I1 fun v0 => K [v0] s)))))))
 (.seq (.reg [q9] fun c r s K => ixA n4 n1 (r q5) I0 fun v0 => ld s v0 fun v1 => ixA n4 n1 (r q5) I1 fun v2 => ld s v2 fun v3 => binK .add v1 v3 fun v4 => ixA n4 n1 (r q5) I2 fun v5 => ld s v5 fun v6 => binK .add v4 v6 fun v7 => ixA n4 n1 (r q5) I3 fun v8 => ld s v8 fun v9 => binK .add v7 v9 fun v10 => K [v10] s)
 (.seq (.drw [q6] fun c r s K => (fun z m => ixA n4 n1 (r q5) I0 fun v0 => dL z m n8 n4 s v0 fun v1 m s => binK .add (r q9) v1 fun v2 => ixA n4 n1 (r q5) I1 fun v3 => dL z m n64 n32 s v3 fun v4 m s => binK .mul U2 v4 fun v5 => binK .add v2 v5 fun v6 => fad n0 (r q3) fun v7 => dL z m (nat_lit 1024) (nat_lit 512) s v7 fun v8 m s => binK .rem v6 v8 fun v9 => ixA n4 n1 (r q5) I1 fun v10 => dL z m (nat_lit 16384) (nat_lit 8192) s v10 fun v11 m s => binK .add (r q9) v11 fun v12 => ixA n4 n1 (r q5) I2 fun v13 => dL z m (nat_lit 131072) (nat_lit 65536) s v13 fun v14 m s => binK .mul U2 v14 fun v15 => binK .add v12 v15 fun v16 => fad n0 (r q3) fun v17 => dL z m (nat_lit 2097152) (nat_lit 1048576) s v17 fun v18 m s => binK .rem v16 v18 fun v19 => ixA n4 n1 (r q5) I2 fun v20 => dL z m (nat_lit 33554432) (nat_lit 16777216) s v20 fun v21 m s => binK .add (r q9) v21 fun v22 => ixA n4 n1 (r q5) I3 fun v23 => dL z m (nat_lit 268435456) (nat_lit 134217728) s v23 fun v24 m s => binK .mul U2 v24 fun v25 => binK .add v22 v25 fun v26 => fad n0 (r q3) fun v27 => dL z m (nat_lit 4294967296) (nat_lit 2147483648) s v27 fun v28 m s => binK .rem v26 v28 fun v29 => ixA n4 n1 (r q5) I3 fun v30 => dL z m (nat_lit 68719476736) (nat_lit 34359738368) s v30 fun v31 m s => binK .add (r q9) v31 fun v32 => ixA n4 n1 (r q5) I0 fun v33 => dL z m (nat_lit 549755813888) (nat_lit 274877906944) s v33 fun v34 m s => binK .mul U2 v34 fun v35 => binK .add v32 v35 fun v36 => fad n0 (r q3) fun v37 => dL z m (nat_lit 8796093022208) (nat_lit 4398046511104) s v37 fun v38 m s => binK .rem v36 v38 fun v39 => h_op3_build [zu, zu, zu, zu] [(n0, n1, (.c v9)), (n1, n1, (.c v19)), (n2, n1, (.c v29)), (n3, n1, (.c v39))] c r s fun v40 s => dS z m (nat_lit 140737488355328) (nat_lit 140737488355327) s n4 (r q7) v40 fun _ m s => K [(r q1)] s) s.next mk0)
 .ret)))), [(.tmp q6), (.cellN n4 q7)], [q0, q1, q2], [q12, q13, q14, q15, q16, q17, q18, q19, q20, q21, q22, q23, q24, q25, q26, q27, q28, q29, q30, q31, q32, q33, q34, q35, q36, q37, q38, q39, q40, q41, q42, q43, q44, q45, q46, q47, q48, q49, q50, q51, q52, q53, q54, q55, q56, q57, q58, q59, q60, q61, q62, q63, q64, q65, q66, q67, q68, q69, q70, q71, q72, q73, q74, q75, q76, q77, q78, q79, q80, q81, q82, q83, q84, q85, q86, q87, q88, q89, q90]⟩
/- (attestor/sponge.mixer).power -/
noncomputable def cf118 : HF := ⟨
(.seq (.reg [q2, q4] fun c r s K => bxx s (r q0) fun v0 s => K [v0, U0] s)
 (.seq (.reg [q5] fun c r s K => binK .mul (r q1) (r q1) fun v0 => fad n0 (r q2) fun v1 => ld s v1 fun v2 => binK .rem v0 v2 fun v3 => K [v3] s)
 (.seq (.seq (.reg [q13] fun c r s K => fad n2 (r q2) fun v0 => ld s v0 fun v1 => K [v1] s)
 (.cond (.t q13) (.reg [q5] fun c r s K => binK .mul (r q5) (r q5) fun v0 => fad n0 (r q2) fun v1 => ld s v1 fun v2 => binK .rem v0 v2 fun v3 => K [v3] s)
 .skip))
 (.seq (.reg [q4] fun c r s K => binK .mul (r q5) (r q1) fun v0 => fad n0 (r q2) fun v1 => ld s v1 fun v2 => binK .rem v0 v2 fun v3 => K [v3] s)
 .ret)))), [(.tmp q4)], [q0, q1], [q6, q7, q8, q9, q10, q11, q12, q14, q15, q16, q17, q18, q19, q20, q21, q22, q23, q24, q25]⟩
/- (attestor/sponge.mixer).reduced -/
noncomputable def cf117 : HF := ⟨
(.seq (.reg [q2, q3, q4] fun c r s K => bxx s (r q0) fun v0 s => bxx s (r q1) fun v1 s => alc s [zu, zu, zu, zu] fun v2 s => K [v0, v1, v2] s)
 (.seq (.seq (.reg [q6] fun c r s K => K [I0] s)
 (.block n0 (.loop (.seq (.reg [q7] fun c r s K => binK .lss (r q6) I4 fun v0 => K [v0] s)
 (.seq (.cond (.t q7) .skip
 (.exit n0))
 (.seq (.block n1 (.seq (.reg [q5] fun c r s K => K [(r q6)] s)
 (.drw [] fun c r s K => (fun z m => ixA n4 n1 (r q3) (r q5) fun v0 => dL z m n4 n3 s v0 fun v1 m s => fad n0 (r q2) fun v2 => dL z m n16 n8 s v2 fun v3 m s => binK .rem v1 v3 fun v4 => ixA n4 n1 (r q3) (r q5) fun v5 => dS z m n128 n127 s n1 v5 v4 fun _ m s => K [] s) s.next mk0)))
 (.reg [q6] fun c r s K => binK .add (r q6) I1 fun v0 => K [v0] s)))))))
 (.seq (.reg [] fun c r s K => lN s n4 (r q3) fun v0 => sto s n4 (r q4) v0 fun s => K [] s)
 .ret))), [(.cellN n4 q4)], [q0, q1], [q8, q9, q10, q11, q12, q13, q14, q15, q16, q17]⟩
/- attestor/sponge.in -/
noncomputable def cf60 : HF := ⟨
(.seq (.reg [q2] fun c r s K => alc s [zu, zu, (.bool false)] fun v0 s => K [v0] s)
 (.seq (.reg [] fun c r s K => c n24 [(r q0)] s fun v0 s => c n75 [(r q0)] s fun v1 s => c n86 [(r q0)] s fun v2 s => binK .eql v2 I5 fun v3 => h_op3_build [zu, zu, (.bool false)] [(n0, n1, (.c v0)), (n1, n1, (.c v1)), (n2, n1, (.c v3))] c r s fun v4 s => sto s n3 (r q2) v4 fun s => K [] s)
 .ret)), [(.cellN n3 q2)], [q0], [q3, q4, q5, q6, q7, q8, q9, q10]⟩
/- attestor/field.Exponent -/
noncomputable def cf86 : HF := ⟨
(.seq (.reg [q2] fun c r s K => K [I0] s)
 (.seq (.reg [q2] fun c r s K => c n56 [(r q0)] s fun v0 s => fld n3 n1 false v0 fun v1 => K [v1] s)
 .ret)), [(.tmp q2)], [q0], [q3, q4, q5]⟩
/- attestor/tree.proper -/
noncomputable def cf170 : HF := ⟨
(.seq (.reg [q4] fun c r s K => K [ff] s)
 (.seq (.reg [q5] fun c r s K => c n24 [(r q0)] s fun v0 s => alc s [zu] fun v1 s => sto s n1 v1 v0 fun s => K [v1] s)
 (.seq (.reg [q4] fun c r s K => h_op4_makeFunc (nat_lit 188) [(.c (r q5))] c r s fun v0 s => c n55 [(r q1), v0] s fun v1 s => nott v1 fun v2 => K [v2] s)
 .ret))), [(.tmp q4)], [q0, q1], [q6, q7, q8, q9, q10, q11]⟩
/- attestor/tree.proper$1 -/
noncomputable def cf188 : HF := ⟨
(.seq (.reg [q2, q3] fun c r s K => bxx s (r q0) fun v0 s => K [v0, ff] s)
 (.seq (.reg [q3] fun c r s K => ixA n2 n1 (r q2) I0 fun v0 => ld s v0 fun v1 => ld s (r q1) fun v2 => binK .geq v1 v2 fun v3 => jf v3 (ixA n2 n1 (r q2) I1) s fun v4 s => jf v3 (ld s v4) s fun v5 s => jf v3 (ld s (r q1)) s fun v6 s => jf v3 (binK .geq v5 v6) s fun v7 s => pck v3 tt v7 fun v8 => K [v8] s)
 .ret)), [(.tmp q3)], [q0, q1], [q4, q5, q6, q7, q8, q9, q10, q11, q12, q13]⟩
/- attestor/tree.opens -/
noncomputable def cf169 : HF := ⟨
(.seq (.reg [q6, q8] fun c r s K => bxx s (r q2) fun v0 s => K [v0, ff] s)
 (.seq (.reg [q8] fun c r s K => c n57 [(r q0)] s fun v0 s => mt v0 (r q1) s fun v1 s => jt v0 (binK .geq v1 I0) s fun v2 s => pck v0 v2 ff fun v3 => mt v3 (r q3) s fun v4 s => jt v3 (lnS v4) s fun v5 s => jt v3 (binK .leq v5 I18) s fun v6 s => pck v3 v6 ff fun v7 => mt v7 (r q0) s fun v8 s => jt v7 (lN s n2 (r q6)) s fun v9 s => jn true v7 (fun j => h_op3_buildS n1 n2 [zu, zu] [(n0, n2, (.c v9))] c r s j) s fun v10 s => jn true v7 (fun j => c (nat_lit 170) [v8, v10] s j) s fun v11 s => pck v7 v11 ff fun v12 => mt v12 (r q0) s fun v13 s => mt v12 (r q3) s fun v14 s => jn true v12 (fun j => c (nat_lit 170) [v13, v14] s j) s fun v15 s => pck v12 v15 ff fun v16 => K [v16] s)
 .ret)), [(.tmp q8)], [q0, q1, q2, q3], [q9, q10, q11, q12, q13, q14, q15, q16, q17, q18, q19, q20, q21, q22, q23, q24, q25, q26, q27, q28, q29, q30]⟩
/- attestor/tree.height -/
noncomputable def cf168 : HF := ⟨
(.seq (.reg [q2] fun c r s K => K [I0] s)
 (.seq (.seq (.reg [q15] fun c r s K => binK .lss (r q0) I1 fun v0 => mf v0 (r q0) s fun v1 s => jf v0 (binK .gtr v1 (i6 (nat_lit 262144))) s fun v2 s => pck v0 tt v2 fun v3 => mf v3 (r q0) s fun v4 s => mf v3 (r q0) s fun v5 s => jf v3 (binK .sub v5 I1) s fun v6 s => jf v3 (binK .and v4 v6) s fun v7 s => jf v3 (binK .neq v7 I0) s fun v8 s => pck v3 tt v8 fun v9 => K [v9] s)
 (.cond (.t q15) (.seq (.reg [q2] fun c r s K => (fun v0 => K [v0] s) (.sc (.int .i64 (.negSucc n0))))
 .ret)
 .skip))
 (.seq (.reg [q2] fun c r s K => cnv .u64 (r q0) fun v0 => c (nat_lit 187) [v0] s fun v1 s => K [v1] s)
 .ret))), [(.tmp q2)], [q0], [q3, q4, q5, q6, q7, q8, q9, q10, q11, q12, q13, q14, q16, q17, q18]⟩
/- attestor/sponge.Hash -/
noncomputable def cf28 : HF := ⟨
(.seq (.reg [q4] fun c r s K => alc s [zu, zu] fun v0 s => K [v0] s)
 (.seq (.seq (.reg [q12] fun c r s K => c n57 [(r q0)] s fun v0 s => nott v0 fun v1 => K [v1] s)
 (.cond (.t q12) (.seq (.reg [] fun c r s K => h_op3_build [zu, zu] [] c r s fun v0 s => sto s n2 (r q4) v0 fun s => K [] s)
 .ret)
 .skip))
 (.seq (.reg [q5] fun c r s K => c n60 [(r q0)] s fun v0 s => alc s [zu, zu, (.bool false)] fun v1 s => sto s n3 v1 v0 fun s => K [v1] s)
 (.seq (.reg [q6] fun c r s K => lnS (r q1) fun v0 => cnv .u64 v0 fun v1 => fad n0 (r q5) fun v2 => ld s v2 fun v3 => binK .rem v1 v3 fun v4 => h_op3_build [zu, zu, zu, zu] [(n2, n1, (.c v4))] c r s fun v5 s => alc s [zu, zu, zu, zu] fun v6 s => sto s n4 v6 v5 fun s => K [v6] s)
 (.seq (.seq (.reg [q25] fun c r s K => lnS (r q1) fun v0 => binK .eql v0 I0 fun v1 => K [v1] s)
 (.cond (.t q25) (.reg [] fun c r s K => lN s n3 (r q5) fun v0 => lN s n4 (r q6) fun v1 => c n61 [v0, v1] s fun v2 s => sto s n4 (r q6) v2 fun s => K [] s)
 .skip))
 (.seq (.block n0 (.loop (.seq (.seq (.reg [q31] fun c r s K => lnS (r q1) fun v0 => binK .gtr v0 I0 fun v1 => K [v1] s)
 (.cond (.t q31) .skip
 (.exit n0)))
 (.block n1 (.seq (.reg [q7] fun c r s K => lnS (r q1) fun v0 => h_op4_minmax false [(.c I2), (.c v0)] c r s fun v1 s => K [v1] s)
 (.seq (.seq (.reg [q37, q38, q39] fun c r s K => h_op3_sliceS n1 (.c (r q1)) none (some (.c (r q7))) none c r s fun v0 s => lnS v0 fun v1 => K [v0, v1, I0] s)
 (.block n2 (.loop (.seq (.reg [q40] fun c r s K => binK .lss (r q39) (r q38) fun v0 => K [v0] s)
 (.seq (.cond (.t q40) .skip
 (.exit n2))
 (.seq (.block n3 (.seq (.reg [q8, q9] fun c r s K => ixs n1 (r q37) (r q39) fun v0 => ld s v0 fun v1 => K [(r q39), v1] s)
 (.drw [] fun c r s K => (fun z m => ixA n4 n1 (r q6) (r q8) fun v0 => dL z m n8 n6 s v0 fun v1 m s => fad n0 (r q5) fun v2 => dL z m n64 n32 s v2 fun v3 m s => binK .rem (r q9) v3 fun v4 => binK .add v1 v4 fun v5 => fad n0 (r q5) fun v6 => dL z m (nat_lit 1024) (nat_lit 512) s v6 fun v7 m s => binK .rem v5 v7 fun v8 => ixA n4 n1 (r q6) (r q8) fun v9 => dS z m (nat_lit 8192) (nat_lit 8191) s n1 v9 v8 fun _ m s => K [] s) s.next mk0)))
 (.reg [q39] fun c r s K => binK .add (r q39) I1 fun v0 => K [v0] s)))))))
 (.seq (.reg [] fun c r s K => lN s n3 (r q5) fun v0 => lN s n4 (r q6) fun v1 => c n61 [v0, v1] s fun v2 s => sto s n4 (r q6) v2 fun s => K [] s)
 (.reg [q1] fun c r s K => h_op3_sliceS n1 (.c (r q1)) (some (.c (r q7))) none none c r s fun v0 s => K [v0] s))))))))
 (.seq (.reg [] fun c r s K => ixA n4 n1 (r q6) I0 fun v0 => ld s v0 fun v1 => ixA n4 n1 (r q6) I1 fun v2 => ld s v2 fun v3 => h_op3_build [zu, zu] [(n0, n1, (.c v1)), (n1, n1, (.c v3))] c r s fun v4 s => sto s n2 (r q4) v4 fun s => K [] s)
 .ret))))))), [(.cellN n2 q4)], [q0, q1], [q10, q11, q13, q14, q15, q16, q17, q18, q19, q20, q21, q22, q23, q24, q26, q27, q28, q29, q30, q32, q33, q34, q35, q36, q41, q42, q43, q44, q45, q46, q47, q48, q49, q50, q51, q52, q53, q54, q55, q56, q57, q58, q59, q60, q61, q62, q63, q64, q65, q66, q67, q68]⟩
/- attestor/verifier.filled -/
noncomputable def cf146 : HF := ⟨
(.seq (.reg [q1, q2] fun c r s K => bxx s (r q0) fun v0 s => alc s [zi, zi, zi, zi, zn, zn, zn, zn] fun v1 s => K [v0, v1] s)
 (.seq (.reg [q3] fun c r s K => fad n4 (r q1) fun v0 => lN s n8 v0 fun v1 => alc s [zi, zi, zi, zi, zn, zn, zn, zn] fun v2 s => sto s n8 v2 v1 fun s => K [v2] s)
 (.seq (.reg [q4] fun c r s K => fad n1 (r q3) fun v0 => ld s v0 fun v1 => xS true I1 v1 c r s fun v2 s => xM n1 n8 [zu] v2 v2 c r s fun v3 s => K [v3] s)
 (.seq (.reg [] fun c r s K => h_op3_buildS n1 n1 [zn] [(n0, n1, (.c (r q4)))] c r s fun v0 s => fad n12 (r q1) fun v1 => ld s v1 fun v2 => c n81 [v0, v2] s fun v3 s => fad n4 (r q3) fun v4 => sto s n1 v4 v3 fun s => K [] s)
 (.seq (.reg [] fun c r s K => lN s n8 (r q3) fun v0 => sto s n8 (r q2) v0 fun s => K [] s)
 .ret))))), [(.cellN n8 q2)], [q0], [q5, q6, q7, q8, q9, q10, q11, q12, q13, q14, q15, q16, q17]⟩
/- attestor/verifier.usable -/
noncomputable def cf114 : HF := ⟨
(.seq (.reg [q3, q4, q6] fun c r s K => bxx s (r q0) fun v0 s => bxx s (r q1) fun v1 s => K [v0, v1, ff] s)
 (.seq (.seq (.reg [q31] fun c r s K => binK .lss (r q2) I0 fun v0 => mf v0 (r q2) s fun v1 s => jf v0 (fad n4 (r q3)) s fun v2 s => jf v0 (ld s v2) s fun v3 s => jf v0 (binK .geq v1 v3) s fun v4 s => pck v0 tt v4 fun v5 => jf v5 (fad n5 (r q4)) s fun v6 s => jf v5 (ld s v6) s fun v7 s => jf v5 (lnS v7) s fun v8 s => jf v5 (fad n4 (r q3)) s fun v9 s => jf v5 (ld s v9) s fun v10 s => jf v5 (binK .neq v8 v10) s fun v11 s => pck v5 tt v11 fun v12 => jf v12 (fad n3 (r q4)) s fun v13 s => jf v12 (ld s v13) s fun v14 s => jf v12 (lnS v14) s fun v15 s => jf v12 (fad n1 (r q3)) s fun v16 s => jf v12 (ld s v16) s fun v17 s => jf v12 (binK .quo v17 I3) s fun v18 s => jf v12 (binK .neq v15 v18) s fun v19 s => pck v12 tt v19 fun v20 => K [v20] s)
 (.cond (.t q31) (.seq (.reg [q6] fun c r s K => K [ff] s)
 .ret)
 .skip))
 (.seq (.seq (.reg [q40] fun c r s K => fad n7 (r q3) fun v0 => ld s v0 fun v1 => binK .gtr v1 I0 fun v2 => jt v2 (fad n0 (r q4)) s fun v3 s => jt v2 (ld s v3) s fun v4 s => jt v2 (lnS v4) s fun v5 s => jt v2 (binK .lss v5 I2) s fun v6 s => pck v2 v6 ff fun v7 => K [v7] s)
 (.cond (.t q40) (.seq (.reg [q6] fun c r s K => K [ff] s)
 .ret)
 .skip))
 (.seq (.drw [q6] fun c r s K => (fun z m => fad n5 (r q4) fun v0 => dL z m n2 n1 s v0 fun v1 m s => dw3 m n4 n3 s (fun s q => c n144 [v1] s q) fun v2 m s => binK .geq v2 I0 fun v3 => jnD true v3 (fun jj => fad n5 (r q4) fun v => jj v m s) m s fun v4 m s => jnD true v3 (fun jj => dL z m n64 n63 s v4 jj) m s fun v5 m s => jnD true v3 (fun jj => dw3 m n128 n127 s (fun s q => c n145 [v5] s q) jj) m s fun v6 m s => jnD true v3 (fun jj => fad n1 (r q3) fun v => jj v m s) m s fun v7 m s => jnD true v3 (fun jj => dL z m (nat_lit 512) (nat_lit 287) s v7 jj) m s fun v8 m s => jnD true v3 (fun jj => fad n2 (r q3) fun v => jj v m s) m s fun v9 m s => jnD true v3 (fun jj => dL z m (nat_lit 2048) (nat_lit 1055) s v9 jj) m s fun v10 m s => jnD true v3 (fun jj => binK .add v8 v10 fun v => jj v m s) m s fun v11 m s => jnD true v3 (fun jj => xS true I1 v11 c r s fun v s => jj v m s) m s fun v12 m s => jnD true v3 (fun jj => binK .lss v6 v12 fun v => jj v m s) m s fun v13 m s => pck v3 v13 ff fun v14 => K [v14] s) s.next mk0)
 .ret)))), [(.tmp q6)], [q0, q1, q2], [q7, q8, q9, q10, q11, q12, q13, q14, q15, q16, q17, q18, q19, q20, q21, q22, q23, q24, q25, q26, q27, q28, q29, q30, q32, q33, q34, q35, q36, q37, q38, q39, q41, q42, q43, q44, q45, q46, q47, q48, q49, q50, q51, q52, q53, q54, q55, q56]⟩
/- slices.Max[[]int,int] -/
noncomputable def cf145 : HF := ⟨
(.seq (.reg [q2] fun c r s K => K [I0] s)
 (.seq (.seq (.reg [q7] fun c r s K => lnS (r q0) fun v0 => binK .lss v0 I1 fun v1 => K [v1] s)
 (.cond (.t q7) (.reg [] fun c r s K => h_op4_iface n9 (.c (.sc (.lit (.string ⟨#[115, 108, 105, 99, 101, 115, 46, 77, 97, 120, 58, 32, 101, 109, 112, 116, 121, 32, 108, 105, 115, 116]⟩)))) c r s fun v0 s => h_op4_bad n102 c r s fun _ s => K [] s)
 .skip))
 (.seq (.reg [q3] fun c r s K => ixs n1 (r q0) I0 fun v0 => ld s v0 fun v1 => K [v1] s)
 (.seq (.seq (.reg [q4] fun c r s K => K [I1] s)
 (.block n0 (.loop (.seq (.seq (.reg [q15] fun c r s K => lnS (r q0) fun v0 => binK .lss (r q4) v0 fun v1 => K [v1] s)
 (.cond (.t q15) .skip
 (.exit n0)))
 (.seq (.block n1 (.reg [q3] fun c r s K => ixs n1 (r q0) (r q4) fun v0 => ld s v0 fun v1 => h_op4_minmax true [(.c (r q3)), (.c v1)] c r s fun v2 s => K [v2] s))
 (.reg [q4] fun c r s K => binK .add (r q4) I1 fun v0 => K [v0] s))))))
 (.seq (.reg [q2] fun c r s K => K [(r q3)] s)
 .ret))))), [(.tmp q2)], [q0], [q5, q6, q8, q9, q10, q11, q12, q13, q14, q18, q19, q20, q21, q22, q23, q16, q17, q24]⟩
/- slices.Min[[]int,int] -/
noncomputable def cf144 : HF := ⟨
(.seq (.reg [q2] fun c r s K => K [I0] s)
 (.seq (.seq (.reg [q7] fun c r s K => lnS (r q0) fun v0 => binK .lss v0 I1 fun v1 => K [v1] s)
 (.cond (.t q7) (.reg [] fun c r s K => h_op4_iface n9 (.c (.sc (.lit (.string ⟨#[115, 108, 105, 99, 101, 115, 46, 77, 105, 110, 58, 32, 101, 109, 112, 116, 121, 32, 108, 105, 115, 116]⟩)))) c r s fun v0 s => h_op4_bad n102 c r s fun _ s => K [] s)
 .skip))
 (.seq (.reg [q3] fun c r s K => ixs n1 (r q0) I0 fun v0 => ld s v0 fun v1 => K [v1] s)
 (.seq (.seq (.reg [q4] fun c r s K => K [I1] s)
 (.block n0 (.loop (.seq (.seq (.reg [q15] fun c r s K => lnS (r q0) fun v0 => binK .lss (r q4) v0 fun v1 => K [v1] s)
 (.cond (.t q15) .skip
 (.exit n0)))
 (.seq (.block n1 (.reg [q3] fun c r s K => ixs n1 (r q0) (r q4) fun v0 => ld s v0 fun v1 => h_op4_minmax false [(.c (r q3)), (.c v1)] c r s fun v2 s => K [v2] s))
 (.reg [q4] fun c r s K => binK .add (r q4) I1 fun v0 => K [v0] s))))))
 (.seq (.reg [q2] fun c r s K => K [(r q3)] s)
 .ret))))), [(.tmp q2)], [q0], [q5, q6, q8, q9, q10, q11, q12, q13, q14, q18, q19, q20, q21, q22, q23, q16, q17, q24]⟩
/- attestor/verifier.Draws -/
noncomputable def cf113 : HF := ⟨
(.seq (.reg [q3, q5, q6, q7] fun c r s K => bxx s (r q0) fun v0 s => bxx s (r q2) fun v1 s => alc s [zn, zu, zu, zn, (.bool false), zn] fun v2 s => K [v0, v1, v2, I0] s)
 (.seq (.reg [q8, q9] fun c r s K => lN s n14 (r q3) fun v0 => c n13 [v0, (r q1)] s fun v1 s => xE n0 v1 c r s fun v2 s => xE n1 v1 c r s fun v3 s => alc s [zi, zu, zu, zu, zu] fun v4 s => sto s n5 v4 v2 fun s => K [v4, v3] s)
 (.seq (.seq (.reg [q25] fun c r s K => binK .neq (r q9) I0 fun v0 => K [v0] s)
 (.cond (.t q25) (.seq (.reg [q7] fun c r s K => h_op3_build [zn, zu, zu, zn, (.bool false), zn] [] c r s fun v0 s => sto s n6 (r q6) v0 fun s => K [(r q9)] s)
 .ret)
 .skip))
 (.seq (.reg [q10] fun c r s K => lN s n14 (r q3) fun v0 => c n14 [v0] s fun v1 s => xE n0 v1 c r s fun v2 s => xE n1 v1 c r s fun v3 s => alc s [zi, zi, zi, zi, zi, zi, zi, zi, zi] fun v4 s => sto s n9 v4 v2 fun s => K [v4] s)
 (.seq (.seq (.reg [q36] fun c r s K => lN s n9 (r q10) fun v0 => lN s n8 (r q5) fun v1 => c n142 [v0, v1] s fun v2 s => nott v2 fun v3 => K [v3] s)
 (.cond (.t q36) (.seq (.reg [q7] fun c r s K => h_op3_build [zn, zu, zu, zn, (.bool false), zn] [] c r s fun v0 s => sto s n6 (r q6) v0 fun s => K [I12] s)
 .ret)
 .skip))
 (.seq (.reg [q12] fun c r s K => alc s [zn, zu, zu, zn, (.bool false), zn] fun v0 s => K [v0] s)
 (.seq (.reg [q13] fun c r s K => h_op4_makeFunc n143 [(.c (r q8))] c r s fun v0 s => K [v0] s)
 (.seq (.reg [] fun c r s K => lN s n5 (r q8) fun v0 => fad n0 (r q5) fun v1 => ld s v1 fun v2 => c n27 [v0, v2] s fun v3 s => sto s n5 (r q8) v3 fun s => K [] s)
 (.seq (.reg [] fun c r s K => lN s n5 (r q8) fun v0 => fad n3 (r q5) fun v1 => ld s v1 fun v2 => h_op3_buildS n1 n1 [zu] [(n0, n1, (.c v2))] c r s fun v3 s => c n26 [v0, v3] s fun v4 s => sto s n5 (r q8) v4 fun s => K [] s)
 (.seq (.seq (.reg [q50] fun c r s K => fad n7 (r q10) fun v0 => ld s v0 fun v1 => binK .gtr v1 I0 fun v2 => K [v2] s)
 (.cond (.t q50) (.seq (.reg [q14] fun c r s K => h_op4_callV (.c (r q13)) [] c r s fun v0 s => K [v0] s)
 (.seq (.reg [] fun c r s K => h_op4_callV (.c (r q13)) [] c r s fun v0 s => h_op3_buildS n2 n1 [zu, zu] [(n0, n1, (.c (r q14))), (n1, n1, (.c v0))] c r s fun v1 s => fad n0 (r q12) fun v2 => sto s n1 v2 v1 fun s => K [] s)
 (.reg [] fun c r s K => lN s n5 (r q8) fun v0 => fad n1 (r q5) fun v1 => ld s v1 fun v2 => c n27 [v0, v2] s fun v3 s => sto s n5 (r q8) v3 fun s => K [] s)))
 .skip))
 (.seq (.reg [] fun c r s K => h_op4_callV (.c (r q13)) [] c r s fun v0 s => fad n1 (r q12) fun v1 => sto s n1 v1 v0 fun s => K [] s)
 (.seq (.reg [] fun c r s K => lN s n5 (r q8) fun v0 => fad n2 (r q5) fun v1 => ld s v1 fun v2 => c n27 [v0, v2] s fun v3 s => sto s n5 (r q8) v3 fun s => K [] s)
 (.seq (.reg [] fun c r s K => h_op4_callV (.c (r q13)) [] c r s fun v0 s => fad n2 (r q12) fun v1 => sto s n1 v1 v0 fun s => K [] s)
 (.seq (.reg [q15] fun c r s K => lN s n14 (r q3) fun v0 => c n48 [v0] s fun v1 s => xE n0 v1 c r s fun v2 s => xE n1 v1 c r s fun v3 s => alc s [zi, zi, zu, zi, zi] fun v4 s => sto s n5 v4 v2 fun s => K [v4] s)
 (.seq (.reg [] fun c r s K => lN s n5 (r q15) fun v0 => fad n4 (r q5) fun v1 => ld s v1 fun v2 => fad n5 (r q5) fun v3 => ld s v3 fun v4 => h_op3_build [zn, zn] [(n0, n1, (.c v2)), (n1, n1, (.c v4))] c r s fun v5 s => lN s n5 (r q8) fun v6 => c n49 [v0, v5, v6] s fun v7 s => xE n0 v7 c r s fun v8 s => xE n1 v7 c r s fun v9 s => xE n2 v7 c r s fun v10 s => fad n3 (r q12) fun v11 => sto s n1 v11 v8 fun s => sto s n5 (r q8) v9 fun s => K [] s)
 (.seq (.reg [] fun c r s K => lN s n5 (r q8) fun v0 => fad n6 (r q5) fun v1 => ld s v1 fun v2 => fad n0 (r q3) fun v3 => fad n3 v3 fun v4 => ld s v4 fun v5 => c n50 [v0, v2, v5] s fun v6 s => xE n0 v6 c r s fun v7 s => xE n1 v6 c r s fun v8 s => sto s n5 (r q8) v7 fun s => fad n4 (r q12) fun v10 => sto s n1 v10 v8 fun s => K [] s)
 (.seq (.seq (.reg [q103, q104] fun c r s K => fad n0 (r q3) fun v0 => fad n2 v0 fun v1 => ld s v1 fun v2 => K [v2, I0] s)
 (.block n0 (.loop (.seq (.reg [q105] fun c r s K => binK .lss (r q104) (r q103) fun v0 => K [v0] s)
 (.seq (.cond (.t q105) .skip
 (.exit n0))
 (.seq (.block n1 (.seq (.reg [q17] fun c r s K => K [I0] s)
 (.seq (.reg [q17] fun c r s K => lN s n5 (r q8) fun v0 => fad n1 (r q10) fun v1 => ld s v1 fun v2 => fad n2 (r q10) fun v3 => ld s v3 fun v4 => binK .add v2 v4 fun v5 => c n79 [v0, v5] s fun v6 s => xE n0 v6 c r s fun v7 s => xE n1 v6 c r s fun v8 s => sto s n5 (r q8) v7 fun s => K [v8] s)
 (.reg [] fun c r s K => fad n5 (r q12) fun v0 => ld s v0 fun v1 => h_op3_buildS n1 n1 [zi] [(n0, n1, (.c (r q17)))] c r s fun v2 s => xA n1 n8 v1 v2 c r s fun v3 s => fad n5 (r q12) fun v4 => sto s n1 v4 v3 fun s => K [] s))))
 (.reg [q104] fun c r s K => binK .add (r q104) I1 fun v0 => K [v0] s)))))))
 (.seq (.reg [q7] fun c r s K => lN s n6 (r q12) fun v0 => sto s n6 (r q6) v0 fun s => K [I0] s)
 .ret)))))))))))))))))), [(.cellN n6 q6), (.tmp q7)], [q0, q1, q2], [q19, q20, q21, q18, q22, q23, q24, q26, q27, q29, q30, q28, q31, q32, q11, q33, q34, q35, q37, q38, q39, q40, q41, q42, q43, q44, q45, q46, q47, q48, q49, q51, q52, q53, q54, q55, q56, q57, q58, q59, q60, q61, q62, q63, q64, q65, q66, q67, q68, q69, q70, q71, q73, q74, q72, q75, q76, q16, q78, q79, q80, q81, q82, q83, q84, q85, q77, q86, q87, q88, q89, q91, q92, q93, q94, q95, q96, q97, q90, q98, q99, q100, q101, q102, q107, q108, q109, q110, q111, q112, q113, q106, q114, q115, q116, q117, q118, q119, q120, q121, q122, q123]⟩
/- attestor/verifier.Draws$1 -/
noncomputable def cf143 : HF := ⟨
(.seq (.reg [q1] fun c r s K => K [U0] s)
 (.seq (.reg [q2] fun c r s K => K [U0] s)
 (.seq (.reg [q2] fun c r s K => lN s n5 (r q0) fun v0 => c n47 [v0] s fun v1 s => xE n0 v1 c r s fun v2 s => xE n1 v1 c r s fun v3 s => sto s n5 (r q0) v2 fun s => K [v3] s)
 (.seq (.reg [q1] fun c r s K => K [(r q2)] s)
 .ret)))), [(.tmp q1)], [q0], [q4, q5, q3, q6, q7, q8]⟩
/- attestor/proof.Fits -/
noncomputable def cf142 : HF := ⟨
(.seq (.reg [q2, q3, q4] fun c r s K => bxx s (r q0) fun v0 s => bxx s (r q1) fun v1 s => alc s [(.bool false)] fun v2 s => K [v0, v1, v2] s)
 (.seq (.seq (.drw [q25] fun c r s K => (fun z m => dN z m n1 n0 s n9 (r q2) fun v0 m s => dw3 m n2 n1 s (fun s q => c n69 [v0] s q) fun v1 m s => nott v1 fun v2 => jnD false v2 (fun jj => fad n4 (r q3) fun v => jj v m s) m s fun v3 m s => jnD false v2 (fun jj => dL z m n32 n31 s v3 jj) m s fun v4 m s => jnD false v2 (fun jj => lnS v4 fun v => jj v m s) m s fun v5 m s => jnD false v2 (fun jj => dN z m n128 n15 s n9 (r q2) jj) m s fun v6 m s => jnD false v2 (fun jj => dw3 m (nat_lit 256) n143 s (fun s q => c n103 [v6] s q) jj) m s fun v7 m s => jnD false v2 (fun jj => binK .neq v5 v7 fun v => jj v m s) m s fun v8 m s => pck v2 tt v8 fun v9 => jnD false v9 (fun jj => fad n7 (r q3) fun v => jj v m s) m s fun v10 m s => jnD false v9 (fun jj => dL z m (nat_lit 8192) (nat_lit 8191) s v10 jj) m s fun v11 m s => jnD false v9 (fun jj => lnS v11 fun v => jj v m s) m s fun v12 m s => jnD false v9 (fun jj => fad n4 (r q2) fun v => jj v m s) m s fun v13 m s => jnD false v9 (fun jj => dL z m (nat_lit 65536) (nat_lit 36863) s v13 jj) m s fun v14 m s => jnD false v9 (fun jj => binK .neq v12 v14 fun v => jj v m s) m s fun v15 m s => pck v9 tt v15 fun v16 => K [v16] s) s.next mk0)
 (.cond (.t q25) (.seq (.reg [] fun c r s K => sto s n1 (r q4) ff fun s => K [] s)
 .ret)
 .skip))
 (.seq (.seq (.reg [q29] fun c r s K => fad n7 (r q3) fun v0 => ld s v0 fun v1 => h_op4_makeFunc (nat_lit 166) [(.c (r q2))] c r s fun v2 s => c (nat_lit 165) [v1, v2] s fun v3 s => K [v3] s)
 (.cond (.t q29) (.seq (.reg [] fun c r s K => sto s n1 (r q4) ff fun s => K [] s)
 .ret)
 .skip))
 (.seq (.seq (.reg [q31] fun c r s K => lN s n9 (r q2) fun v0 => c n72 [v0] s fun v1 s => K [v1] s)
 (.block n0 (.rng n142 n0 (.t q31) [q32] (.reg [q5] fun c r s K => alc s [zb, zi, zi, zi] fun v0 s => sto s n4 v0 (r q32) fun s => K [v0] s)
 (.block n1 (.seq (.drw [q6] fun c r s K => (fun z m => dw3 m n1 n0 s (fun s q => c n106 [] s q) fun v0 m s => fad n0 (r q5) fun v1 => dL z m n4 n2 s v1 fun v2 m s => ixs n1 v0 v2 fun v3 => dL z m n16 n15 s v3 fun v4 m s => dN z m n32 n0 s n4 (r q5) fun v5 m s => dw3 m n64 n63 s (fun s q => h_op4_callV (.c v4) [(.c (r q3)), (.c v5)] c r s q) fun v6 m s => dw3 m n128 n127 s (fun s q => c (nat_lit 167) [v6] s q) fun v7 m s => K [v7] s) s.next mk0)
 (.seq (.reg [q52] fun c r s K => lnS (r q6) fun v0 => fad n3 (r q5) fun v1 => ld s v1 fun v2 => binK .neq v0 v2 fun v3 => jf v3 (fad n0 (r q2)) s fun v4 s => jf v3 (ld s v4) s fun v5 s => mf v3 (r q6) s fun v6 s => jn false v3 (fun j => c n111 [v5, v6] s j) s fun v7 s => jf v3 (nott v7) s fun v8 s => pck v3 tt v8 fun v9 => K [v9] s)
 (.cond (.t q52) (.seq (.reg [] fun c r s K => sto s n1 (r q4) ff fun s => K [] s)
 .ret)
 .skip)))))))
 (.seq (.reg [] fun c r s K => sto s n1 (r q4) tt fun s => K [] s)
 .ret))))), [(.cell1 q4)], [q0, q1], [q7, q8, q9, q10, q11, q12, q13, q14, q15, q16, q17, q18, q19, q20, q21, q22, q23, q24, q26, q27, q28, q30, q33, q34, q35, q36, q37, q38, q39, q40, q41, q42, q43, q44, q45, q46, q47, q48, q49, q50, q51]⟩
/- (attestor/proof.list).get -/
noncomputable def cf167 : HF := ⟨
(.seq (.reg [q1, q2] fun c r s K => bxx s (r q0) fun v0 s => K [v0, (.sc zn)] s)
 (.seq (.block n0 (.seq (.reg [q6] fun c r s K => fad n0 (r q1) fun v0 => ld s v0 fun v1 => h_op4_eqv .ptr true (.c v1) (.c (.sc .nilp)) c r s fun v2 s => K [v2] s)
 (.cond (.t q6) (.seq (.reg [q2] fun c r s K => fad n0 (r q1) fun v0 => ld s v0 fun v1 => xC v1 c r s fun v2 s => ld s v2 fun v3 => K [v3] s)
 .ret)
 (.seq (.reg [q14] fun c r s K => fad n2 (r q1) fun v0 => ld s v0 fun v1 => h_op4_eqv .ptr true (.c v1) (.c (.sc .nilp)) c r s fun v2 s => K [v2] s)
 (.cond (.t q14) (.seq (.reg [q2] fun c r s K => fad n2 (r q1) fun v0 => ld s v0 fun v1 => xC v1 c r s fun v2 s => ld s v2 fun v3 => h_op3_buildS n1 n1 [zu] [(n0, n1, (.c v3))] c r s fun v4 s => K [v4] s)
 .ret)
 (.seq (.reg [q23] fun c r s K => fad n3 (r q1) fun v0 => ld s v0 fun v1 => h_op4_eqv .ptr true (.c v1) (.c (.sc .nilp)) c r s fun v2 s => K [v2] s)
 (.cond (.t q23) (.seq (.reg [q2] fun c r s K => fad n3 (r q1) fun v0 => ld s v0 fun v1 => xC v1 c r s fun v2 s => h_op3_sliceA n8 n1 (.c v2) none none none c r s fun v3 s => K [v3] s)
 .ret)
 .skip)))))))
 (.seq (.reg [q3] fun c r s K => fad n1 (r q1) fun v0 => ld s v0 fun v1 => xC v1 c r s fun v2 s => ld s v2 fun v3 => lnS v3 fun v4 => binK .mul I2 v4 fun v5 => xM n1 n8 [zu] I0 v5 c r s fun v6 s => K [v6] s)
 (.seq (.seq (.reg [q41, q42, q43] fun c r s K => fad n1 (r q1) fun v0 => ld s v0 fun v1 => xC v1 c r s fun v2 s => ld s v2 fun v3 => lnS v3 fun v4 => K [v3, v4, I0] s)
 (.block n1 (.loop (.seq (.reg [q44] fun c r s K => binK .lss (r q43) (r q42) fun v0 => K [v0] s)
 (.seq (.cond (.t q44) .skip
 (.exit n1))
 (.seq (.block n2 (.seq (.reg [q5] fun c r s K => ixs n2 (r q41) (r q43) fun v0 => lN s n2 v0 fun v1 => alc s [zu, zu] fun v2 s => sto s n2 v2 v1 fun s => K [v2] s)
 (.reg [q3] fun c r s K => h_op3_sliceA n2 n1 (.c (r q5)) none none none c r s fun v0 s => xA n1 n8 (r q3) v0 c r s fun v1 s => K [v1] s)))
 (.reg [q43] fun c r s K => binK .add (r q43) I1 fun v0 => K [v0] s)))))))
 (.seq (.reg [q2] fun c r s K => K [(r q3)] s)
 .ret))))), [(.tmp q2)], [q0], [q7, q8, q9, q10, q11, q12, q13, q15, q16, q17, q18, q19, q20, q21, q22, q24, q25, q26, q27, q28, q29, q30, q31, q32, q33, q34, q35, q36, q37, q38, q39, q40, q45, q46, q47, q48, q49, q50, q51]⟩
/- attestor/proof.places -/
noncomputable def cf106 : HF := ⟨
(.seq (.reg [q0] fun c r s K => K [(.sc zn)] s)
 (.seq (.reg [q0] fun c r s K => h_op3_buildS n12 n1 [(.lit .nilFunc), (.lit .nilFunc), (.lit .nilFunc), (.lit .nilFunc), (.lit .nilFunc), (.lit .nilFunc), (.lit .nilFunc), (.lit .nilFunc), (.lit .nilFunc), (.lit .nilFunc), (.lit .nilFunc), (.lit .nilFunc)] [(n1, n1, (.c (.sc (.fn n127)))), (n2, n1, (.c (.sc (.fn n128)))), (n3, n1, (.c (.sc (.fn n129)))), (n4, n1, (.c (.sc (.fn n130)))), (n5, n1, (.c (.sc (.fn n131)))), (n6, n1, (.c (.sc (.fn n132)))), (n7, n1, (.c (.sc (.fn n133)))), (n8, n1, (.c (.sc (.fn n134)))), (n9, n1, (.c (.sc (.fn n135)))), (n10, n1, (.c (.sc (.fn n136)))), (n11, n1, (.c (.sc (.fn n137))))] c r s fun v0 s => K [v0] s)
 .ret)), [(.tmp q0)], [], [q1]⟩
/- attestor/proof.places$11 -/
noncomputable def cf137 : HF := ⟨
(.seq (.reg [q3, q4] fun c r s K => bxx s (r q1) fun v0 s => alc s [.nilp, .nilp, .nilp, .nilp] fun v1 s => K [v0, v1] s)
 (.seq (.drw [] fun c r s K => (fun z m => xC (r q0) c r s fun v0 s => fad n7 v0 fun v1 => dL z m n8 n7 s v1 fun v2 m s => fad n1 (r q3) fun v3 => dL z m n32 n16 s v3 fun v4 m s => ixs n13 v2 v4 fun v5 => fad n12 v5 fun v6 => dL z m (nat_lit 256) (nat_lit 255) s v6 fun v7 m s => fad n2 (r q3) fun v8 => dL z m (nat_lit 1024) (nat_lit 512) s v8 fun v9 m s => ixs n9 v7 v9 fun v10 => fad n8 v10 fun v11 => h_op3_build [.nilp, .nilp, .nilp, .nilp] [(n1, n1, (.c v11))] c r s fun v12 s => dS z m (nat_lit 16384) (nat_lit 16383) s n4 (r q4) v12 fun _ m s => K [] s) s.next mk0)
 .ret)), [(.cellN n4 q4)], [q0, q1], [q5, q6, q7, q8, q9, q10, q11, q12, q13, q14, q15, q16, q17, q18]⟩
/- attestor/proof.places$10 -/
noncomputable def cf136 : HF := ⟨
(.seq (.reg [q3, q4] fun c r s K => bxx s (r q1) fun v0 s => alc s [.nilp, .nilp, .nilp, .nilp] fun v1 s => K [v0, v1] s)
 (.seq (.drw [] fun c r s K => (fun z m => xC (r q0) c r s fun v0 s => fad n7 v0 fun v1 => dL z m n8 n7 s v1 fun v2 m s => fad n1 (r q3) fun v3 => dL z m n32 n16 s v3 fun v4 m s => ixs n13 v2 v4 fun v5 => fad n12 v5 fun v6 => dL z m (nat_lit 256) (nat_lit 255) s v6 fun v7 m s => fad n2 (r q3) fun v8 => dL z m (nat_lit 1024) (nat_lit 512) s v8 fun v9 m s => ixs n9 v7 v9 fun v10 => fad n0 v10 fun v11 => h_op3_build [.nilp, .nilp, .nilp, .nilp] [(n3, n1, (.c v11))] c r s fun v12 s => dS z m (nat_lit 16384) (nat_lit 16383) s n4 (r q4) v12 fun _ m s => K [] s) s.next mk0)
 .ret)), [(.cellN n4 q4)], [q0, q1], [q5, q6, q7, q8, q9, q10, q11, q12, q13, q14, q15, q16, q17, q18]⟩
/- attestor/proof.places$9 -/
noncomputable def cf135 : HF := ⟨
(.seq (.reg [q3, q4] fun c r s K => bxx s (r q1) fun v0 s => alc s [.nilp, .nilp, .nilp, .nilp] fun v1 s => K [v0, v1] s)
 (.seq (.drw [q5] fun c r s K => (fun z m => xC (r q0) c r s fun v0 s => fad n7 v0 fun v1 => dL z m n8 n7 s v1 fun v2 m s => fad n1 (r q3) fun v3 => dL z m n32 n16 s v3 fun v4 m s => ixs n13 v2 v4 fun v5 => K [v5] s) s.next mk0)
 (.seq (.drw [] fun c r s K => (fun z m => xC (r q5) c r s fun v0 s => fad n6 v0 fun v1 => xC (r q5) c r s fun v2 s => fad n7 v2 fun v3 => xC (r q5) c r s fun v4 s => fad n8 v4 fun v5 => xC (r q5) c r s fun v6 s => fad n9 v6 fun v7 => xC (r q5) c r s fun v8 s => fad n10 v8 fun v9 => xC (r q5) c r s fun v10 s => fad n11 v10 fun v11 => h_op3_build [.nilp, .nilp, .nilp, .nilp, .nilp, .nilp] [(n0, n1, (.c v1)), (n1, n1, (.c v3)), (n2, n1, (.c v5)), (n3, n1, (.c v7)), (n4, n1, (.c v9)), (n5, n1, (.c v11))] c r s fun v12 s => fad n2 (r q3) fun v13 => dL z m (nat_lit 1048576) (nat_lit 524288) s v13 fun v14 m s => h_op2_idxV n6 n1 false (.c v12) (.c v14) c r s fun v15 s => h_op3_build [.nilp, .nilp, .nilp, .nilp] [(n1, n1, (.c v15))] c r s fun v16 s => dS z m (nat_lit 8388608) (nat_lit 8388607) s n4 (r q4) v16 fun _ m s => K [] s) s.next mk0)
 .ret))), [(.cellN n4 q4)], [q0, q1], [q6, q7, q8, q9, q10, q11, q12, q13, q14, q15, q16, q17, q18, q19, q20, q21, q22, q23, q24, q25, q26, q27, q28, q29, q30, q31, q32, q33, q34, q35]⟩
/- attestor/proof.places$8 -/
noncomputable def cf134 : HF := ⟨
(.seq (.reg [q3, q4] fun c r s K => bxx s (r q1) fun v0 s => alc s [.nilp, .nilp, .nilp, .nilp] fun v1 s => K [v0, v1] s)
 (.seq (.drw [q5] fun c r s K => (fun z m => xC (r q0) c r s fun v0 s => fad n7 v0 fun v1 => dL z m n8 n7 s v1 fun v2 m s => fad n1 (r q3) fun v3 => dL z m n32 n16 s v3 fun v4 m s => ixs n13 v2 v4 fun v5 => K [v5] s) s.next mk0)
 (.seq (.drw [] fun c r s K => (fun z m => xC (r q5) c r s fun v0 s => fad n0 v0 fun v1 => xC (r q5) c r s fun v2 s => fad n1 v2 fun v3 => xC (r q5) c r s fun v4 s => fad n2 v4 fun v5 => xC (r q5) c r s fun v6 s => fad n3 v6 fun v7 => xC (r q5) c r s fun v8 s => fad n4 v8 fun v9 => xC (r q5) c r s fun v10 s => fad n5 v10 fun v11 => h_op3_build [.nilp, .nilp, .nilp, .nilp, .nilp, .nilp] [(n0, n1, (.c v1)), (n1, n1, (.c v3)), (n2, n1, (.c v5)), (n3, n1, (.c v7)), (n4, n1, (.c v9)), (n5, n1, (.c v11))] c r s fun v12 s => fad n2 (r q3) fun v13 => dL z m (nat_lit 1048576) (nat_lit 524288) s v13 fun v14 m s => h_op2_idxV n6 n1 false (.c v12) (.c v14) c r s fun v15 s => h_op3_build [.nilp, .nilp, .nilp, .nilp] [(n0, n1, (.c v15))] c r s fun v16 s => dS z m (nat_lit 8388608) (nat_lit 8388607) s n4 (r q4) v16 fun _ m s => K [] s) s.next mk0)
 .ret))), [(.cellN n4 q4)], [q0, q1], [q6, q7, q8, q9, q10, q11, q12, q13, q14, q15, q16, q17, q18, q19, q20, q21, q22, q23, q24, q25, q26, q27, q28, q29, q30, q31, q32, q33, q34, q35]⟩
/- attestor/proof.places$7 -/
noncomputable def cf133 : HF := ⟨
(.seq (.reg [q4] fun c r s K => bxx s (r q1) fun v0 s => alc s [.nilp, .nilp, .nilp, .nilp] fun v1 s => K [v1] s)
 (.seq (.reg [] fun c r s K => xC (r q0) c r s fun v0 s => fad n6 v0 fun v1 => h_op3_build [.nilp, .nilp, .nilp, .nilp] [(n2, n1, (.c v1))] c r s fun v2 s => sto s n4 (r q4) v2 fun s => K [] s)
 .ret)), [(.cellN n4 q4)], [q0, q1], [q3, q5, q6, q7, q8]⟩
/- attestor/proof.places$6 -/
noncomputable def cf132 : HF := ⟨
(.seq (.reg [q4] fun c r s K => bxx s (r q1) fun v0 s => alc s [.nilp, .nilp, .nilp, .nilp] fun v1 s => K [v1] s)
 (.seq (.reg [] fun c r s K => xC (r q0) c r s fun v0 s => fad n5 v0 fun v1 => h_op3_build [.nilp, .nilp, .nilp, .nilp] [(n0, n1, (.c v1))] c r s fun v2 s => sto s n4 (r q4) v2 fun s => K [] s)
 .ret)), [(.cellN n4 q4)], [q0, q1], [q3, q5, q6, q7, q8]⟩
/- attestor/proof.places$5 -/
noncomputable def cf131 : HF := ⟨
(.seq (.reg [q3, q4] fun c r s K => bxx s (r q1) fun v0 s => alc s [.nilp, .nilp, .nilp, .nilp] fun v1 s => K [v0, v1] s)
 (.seq (.drw [] fun c r s K => (fun z m => xC (r q0) c r s fun v0 s => fad n4 v0 fun v1 => dL z m n8 n7 s v1 fun v2 m s => fad n2 (r q3) fun v3 => dL z m n32 n16 s v3 fun v4 m s => ixs n1 v2 v4 fun v5 => h_op3_build [.nilp, .nilp, .nilp, .nilp] [(n1, n1, (.c v5))] c r s fun v6 s => dS z m (nat_lit 256) (nat_lit 255) s n4 (r q4) v6 fun _ m s => K [] s) s.next mk0)
 .ret)), [(.cellN n4 q4)], [q0, q1], [q5, q6, q7, q8, q9, q10, q11, q12]⟩
/- attestor/proof.places$4 -/
noncomputable def cf130 : HF := ⟨
(.seq (.reg [q4] fun c r s K => bxx s (r q1) fun v0 s => alc s [.nilp, .nilp, .nilp, .nilp] fun v1 s => K [v1] s)
 (.seq (.reg [] fun c r s K => xC (r q0) c r s fun v0 s => fad n2 v0 fun v1 => h_op3_build [.nilp, .nilp, .nilp, .nilp] [(n1, n1, (.c v1))] c r s fun v2 s => sto s n4 (r q4) v2 fun s => K [] s)
 .ret)), [(.cellN n4 q4)], [q0, q1], [q3, q5, q6, q7, q8]⟩
/- attestor/proof.places$3 -/
noncomputable def cf129 : HF := ⟨
(.seq (.reg [q4] fun c r s K => bxx s (r q1) fun v0 s => alc s [.nilp, .nilp, .nilp, .nilp] fun v1 s => K [v1] s)
 (.seq (.reg [] fun c r s K => xC (r q0) c r s fun v0 s => fad n1 v0 fun v1 => h_op3_build [.nilp, .nilp, .nilp, .nilp] [(n1, n1, (.c v1))] c r s fun v2 s => sto s n4 (r q4) v2 fun s => K [] s)
 .ret)), [(.cellN n4 q4)], [q0, q1], [q3, q5, q6, q7, q8]⟩
/- attestor/proof.places$2 -/
noncomputable def cf128 : HF := ⟨
(.seq (.reg [q4] fun c r s K => bxx s (r q1) fun v0 s => alc s [.nilp, .nilp, .nilp, .nilp] fun v1 s => K [v1] s)
 (.seq (.reg [] fun c r s K => xC (r q0) c r s fun v0 s => fad n3 v0 fun v1 => h_op3_build [.nilp, .nilp, .nilp, .nilp] [(n2, n1, (.c v1))] c r s fun v2 s => sto s n4 (r q4) v2 fun s => K [] s)
 .ret)), [(.cellN n4 q4)], [q0, q1], [q3, q5, q6, q7, q8]⟩
/- attestor/proof.places$1 -/
noncomputable def cf127 : HF := ⟨
(.seq (.reg [q4] fun c r s K => bxx s (r q1) fun v0 s => alc s [.nilp, .nilp, .nilp, .nilp] fun v1 s => K [v1] s)
 (.seq (.reg [] fun c r s K => xC (r q0) c r s fun v0 s => fad n0 v0 fun v1 => h_op3_build [.nilp, .nilp, .nilp, .nilp] [(n1, n1, (.c v1))] c r s fun v2 s => sto s n4 (r q4) v2 fun s => K [] s)
 .ret)), [(.cellN n4 q4)], [q0, q1], [q3, q5, q6, q7, q8]⟩
/- slices.ContainsFunc[[]attestor/api.Opening,attestor/api.Opening] -/
noncomputable def cf165 : HF := ⟨
(.seq (.reg [q4] fun c r s K => K [ff] s)
 (.seq (.reg [q4] fun c r s K => c (nat_lit 186) [(r q0), (r q1)] s fun v0 s => binK .geq v0 I0 fun v1 => K [v1] s)
 .ret)), [(.tmp q4)], [q0, q1], [q5, q6, q7, q8]⟩
/- slices.IndexFunc[[]attestor/api.Opening,attestor/api.Opening] -/
noncomputable def cf186 : HF := ⟨
(.seq (.reg [q4] fun c r s K => K [I0] s)
 (.seq (.seq (.reg [q7, q8] fun c r s K => lnS (r q0) fun v0 => K [v0, I0] s)
 (.block n0 (.loop (.seq (.reg [q9] fun c r s K => binK .lss (r q8) (r q7) fun v0 => K [v0] s)
 (.seq (.cond (.t q9) .skip
 (.exit n0))
 (.seq (.block n1 (.seq (.reg [q5] fun c r s K => K [(r q8)] s)
 (.seq (.reg [q16] fun c r s K => ixs n13 (r q0) (r q5) fun v0 => lN s n13 v0 fun v1 => h_op4_callV (.c (r q1)) [(.c v1)] c r s fun v2 s => K [v2] s)
 (.cond (.t q16) (.seq (.reg [q4] fun c r s K => K [(r q5)] s)
 .ret)
 .skip))))
 (.reg [q8] fun c r s K => binK .add (r q8) I1 fun v0 => K [v0] s)))))))
 (.seq (.reg [q4] fun c r s K => (fun v0 => K [v0] s) (.sc (.int .i64 (.negSucc n0))))
 .ret))), [(.tmp q4)], [q0, q1], [q6, q10, q11, q12, q13, q14, q15, q17, q18]⟩
/- attestor/proof.Fits$1 -/
noncomputable def cf166 : HF := ⟨
(.seq (.reg [q2, q3] fun c r s K => bxx s (r q0) fun v0 s => K [v0, ff] s)
 (.seq (.drw [q3] fun c r s K => (fun z m => fad n12 (r q2) fun v0 => dL z m n2 n1 s v0 fun v1 m s => lnS v1 fun v2 => dN z m n8 n0 s n9 (r q1) fun v3 m s => dw3 m n16 n8 s (fun s q => c n103 [v3] s q) fun v4 m s => binK .neq v2 v4 fun v5 => K [v5] s) s.next mk0)
 .ret)), [(.tmp q3)], [q0, q1], [q4, q5, q6, q7, q8, q9]⟩
/- attestor/channel.Position -/
noncomputable def cf79 : HF := ⟨
(.seq (.reg [q2, q4, q5] fun c r s K => bxx s (r q0) fun v0 s => alc s [zi, zu, zu, zu, zu] fun v1 s => K [v0, v1, I0] s)
 (.seq (.seq (.reg [q10] fun c r s K => lN s n5 (r q2) fun v0 => c n78 [v0, (r q1)] s fun v1 s => nott v1 fun v2 => K [v2] s)
 (.cond (.t q10) (.seq (.reg [q5] fun c r s K => h_op3_build [zi, zu, zu, zu, zu] [] c r s fun v0 s => sto s n5 (r q4) v0 fun s => K [I0] s)
 .ret)
 .skip))
 (.seq (.reg [q6] fun c r s K => lN s n5 (r q2) fun v0 => c n47 [v0] s fun v1 s => xE n0 v1 c r s fun v2 s => xE n1 v1 c r s fun v3 s => sto s n5 (r q2) v2 fun s => K [v3] s)
 (.seq (.drw [q5] fun c r s K => (fun z m => dN z m n1 n0 s n5 (r q2) fun v0 m s => xS true U1 (r q1) c r s fun v1 s => binK .sub v1 U1 fun v2 => binK .and (r q6) v2 fun v3 => cnv .i64 v3 fun v4 => dS z m n128 n1 s n5 (r q4) v0 fun _ m s => K [v4] s) s.next mk0)
 .ret)))), [(.cellN n5 q4), (.tmp q5)], [q0, q1], [q7, q8, q9, q11, q13, q14, q12, q15, q16, q17, q18, q19, q20, q21, q22, q23]⟩
/- attestor/channel.bounded -/
noncomputable def cf78 : HF := ⟨
(.seq (.reg [q2, q4] fun c r s K => bxx s (r q0) fun v0 s => K [v0, ff] s)
 (.seq (.reg [q4] fun c r s K => fad n0 (r q2) fun v0 => ld s v0 fun v1 => c n57 [v1] s fun v2 s => mt v2 (r q1) s fun v3 s => jt v2 (binK .geq v3 I0) s fun v4 s => pck v2 v4 ff fun v5 => mt v5 (r q1) s fun v6 s => jt v5 (binK .leq v6 I24) s fun v7 s => pck v5 v7 ff fun v8 => K [v8] s)
 .ret)), [(.tmp q4)], [q0, q1], [q5, q6, q7, q8, q9, q10, q11, q12, q13, q14, q15]⟩
/- attestor/channel.Grind -/
noncomputable def cf50 : HF := ⟨
(.seq (.reg [q3, q6, q7] fun c r s K => bxx s (r q0) fun v0 s => alc s [zi, zu, zu, zu, zu] fun v1 s => K [v0, v1, ff] s)
 (.seq (.seq (.reg [q12] fun c r s K => lN s n5 (r q3) fun v0 => c n78 [v0, (r q2)] s fun v1 s => nott v1 fun v2 => K [v2] s)
 (.cond (.t q12) (.seq (.reg [q7] fun c r s K => h_op3_build [zi, zu, zu, zu, zu] [] c r s fun v0 s => sto s n5 (r q6) v0 fun s => K [ff] s)
 .ret)
 .skip))
 (.seq (.reg [q8] fun c r s K => lN s n5 (r q3) fun v0 => h_op3_buildS n1 n1 [zu] [(n0, n1, (.c (r q1)))] c r s fun v1 s => c n26 [v0, v1] s fun v2 s => c n79 [v2, (r q2)] s fun v3 s => xE n0 v3 c r s fun v4 s => xE n1 v3 c r s fun v5 s => sto s n5 (r q3) v4 fun s => K [v5] s)
 (.seq (.reg [q7] fun c r s K => lN s n5 (r q3) fun v0 => binK .eql (r q8) I0 fun v1 => sto s n5 (r q6) v0 fun s => K [v1] s)
 .ret)))), [(.cellN n5 q6), (.tmp q7)], [q0, q1, q2], [q9, q10, q11, q13, q15, q16, q17, q18, q19, q20, q14, q21, q22, q23, q24, q25]⟩
/- attestor/lowdegree.Follow -/
noncomputable def cf49 : HF := ⟨
(.seq (.reg [q3, q4, q5, q6, q7, q8] fun c r s K => bxx s (r q0) fun v0 s => bxx s (r q1) fun v1 s => bxx s (r q2) fun v2 s => alc s [zi, zu, zu, zu, zu] fun v3 s => K [v0, v1, v2, (.sc zn), v3, I0] s)
 (.seq (.block n0 (.seq (.reg [q12] fun c r s K => lN s n5 (r q3) fun v0 => c n76 [v0] s fun v1 s => nott v1 fun v2 => jf v2 (fad n0 (r q5)) s fun v3 s => jf v2 (ld s v3) s fun v4 s => jf v2 (fad n0 (r q3)) s fun v5 s => jf v2 (fad n0 v5) s fun v6 s => jf v2 (ld s v6) s fun v7 s => jf v2 (binK .neq v4 v7) s fun v8 s => pck v2 tt v8 fun v9 => K [v9] s)
 (.cond (.t q12) (.seq (.reg [q6, q8] fun c r s K => h_op3_build [zi, zu, zu, zu, zu] [] c r s fun v0 s => sto s n5 (r q7) v0 fun s => K [(.sc zn), I1] s)
 .ret)
 (.seq (.reg [q25] fun c r s K => lN s n5 (r q3) fun v0 => lN s n2 (r q4) fun v1 => c n77 [v0, v1] s fun v2 s => nott v2 fun v3 => K [v3] s)
 (.cond (.t q25) (.seq (.reg [q6, q8] fun c r s K => h_op3_build [zi, zu, zu, zu, zu] [] c r s fun v0 s => sto s n5 (r q7) v0 fun s => K [(.sc zn), I12] s)
 .ret)
 .skip)))))
 (.seq (.reg [q9] fun c r s K => fad n0 (r q4) fun v0 => ld s v0 fun v1 => lnS v1 fun v2 => xM n1 n8 [zu] v2 v2 c r s fun v3 s => K [v3] s)
 (.seq (.seq (.reg [q36, q37, q38] fun c r s K => fad n0 (r q4) fun v0 => ld s v0 fun v1 => lnS v1 fun v2 => K [v1, v2, I0] s)
 (.block n1 (.loop (.seq (.reg [q39] fun c r s K => binK .lss (r q38) (r q37) fun v0 => K [v0] s)
 (.seq (.cond (.t q39) .skip
 (.exit n1))
 (.seq (.block n2 (.seq (.reg [q10, q11] fun c r s K => ixs n1 (r q36) (r q38) fun v0 => ld s v0 fun v1 => K [(r q38), v1] s)
 (.reg [] fun c r s K => lN s n5 (r q5) fun v0 => c n27 [v0, (r q11)] s fun v1 s => c n47 [v1] s fun v2 s => xE n0 v2 c r s fun v3 s => xE n1 v2 c r s fun v4 s => sto s n5 (r q5) v3 fun s => ixs n1 (r q9) (r q10) fun v6 => sto s n1 v6 v4 fun s => K [] s)))
 (.reg [q38] fun c r s K => binK .add (r q38) I1 fun v0 => K [v0] s)))))))
 (.seq (.reg [q6, q8] fun c r s K => lN s n5 (r q5) fun v0 => fad n1 (r q4) fun v1 => ld s v1 fun v2 => c n26 [v0, v2] s fun v3 s => sto s n5 (r q7) v3 fun s => K [(r q9), I0] s)
 .ret))))), [(.tmp q6), (.cellN n5 q7), (.tmp q8)], [q0, q1, q2], [q13, q14, q15, q16, q17, q18, q19, q20, q21, q22, q23, q24, q26, q27, q28, q29, q30, q31, q32, q33, q34, q35, q40, q41, q42, q44, q45, q46, q47, q48, q49, q43, q50, q51, q52, q53, q54, q55, q56, q57, q58]⟩
/- attestor/prover.Low -/
noncomputable def cf48 : HF := ⟨
(.seq (.reg [q1, q2, q3] fun c r s K => bxx s (r q0) fun v0 s => alc s [zi, zi, zu, zi, zi] fun v1 s => K [v0, v1, I0] s)
 (.seq (.reg [q4, q5] fun c r s K => lN s n14 (r q1) fun v0 => c n22 [v0] s fun v1 s => xE n0 v1 c r s fun v2 s => xE n1 v1 c r s fun v3 s => alc s [zi, zi, zi, zi, zn, zn, zn, zn] fun v4 s => sto s n8 v4 v2 fun s => K [v4, v3] s)
 (.seq (.seq (.reg [q13] fun c r s K => nott (r q5) fun v0 => K [v0] s)
 (.cond (.t q13) (.seq (.reg [q3] fun c r s K => h_op3_build [zi, zi, zu, zi, zi] [] c r s fun v0 s => sto s n5 (r q2) v0 fun s => K [I1] s)
 .ret)
 .skip))
 (.seq (.drw [q6] fun c r s K => (fun z m => fad n0 (r q4) fun v0 => dL z m n2 n1 s v0 fun v1 m s => fad n1 (r q4) fun v2 => dL z m n8 n4 s v2 fun v3 m s => fad n0 (r q1) fun v4 => fad n0 v4 fun v5 => dL z m n64 n48 s v5 fun v6 m s => binK .add v3 v6 fun v7 => fad n0 (r q4) fun v8 => dL z m (nat_lit 512) (nat_lit 256) s v8 fun v9 m s => dw3 m (nat_lit 1024) (nat_lit 768) s (fun s q => c n75 [v9] s q) fun v10 m s => h_op3_build [zi, zi, zu] [(n0, n1, (.c v1)), (n1, n1, (.c v7)), (n2, n1, (.c v10))] c r s fun v11 s => dw1 m (nat_lit 4096) (fun q => alc s [zi, zi, zu] q) fun v12 m s => dS z m (nat_lit 8192) (nat_lit 8191) s n3 v12 v11 fun _ m s => K [v12] s) s.next mk0)
 (.seq (.reg [q3] fun c r s K => lN s n3 (r q6) fun v0 => fad n1 (r q4) fun v1 => ld s v1 fun v2 => fad n0 (r q1) fun v3 => fad n1 v3 fun v4 => ld s v4 fun v5 => h_op3_build [zi, zi, zu, zi, zi] [(n0, n3, (.c v0)), (n3, n1, (.c v2)), (n4, n1, (.c v5))] c r s fun v6 s => sto s n5 (r q2) v6 fun s => K [I0] s)
 .ret))))), [(.cellN n5 q2), (.tmp q3)], [q0], [q8, q9, q7, q10, q11, q12, q14, q15, q16, q17, q18, q19, q20, q21, q22, q23, q24, q25, q26, q27, q28, q29, q30, q31, q32, q33]⟩
/- attestor/channel.Draw -/
noncomputable def cf47 : HF := ⟨
(.seq (.reg [q1, q2, q3] fun c r s K => bxx s (r q0) fun v0 s => alc s [zi, zu, zu, zu, zu] fun v1 s => K [v0, v1, U0] s)
 (.seq (.seq (.reg [q7] fun c r s K => fad n0 (r q1) fun v0 => ld s v0 fun v1 => c n57 [v1] s fun v2 s => nott v2 fun v3 => K [v3] s)
 (.cond (.t q7) (.seq (.reg [q3] fun c r s K => h_op3_build [zi, zu, zu, zu, zu] [] c r s fun v0 s => sto s n5 (r q2) v0 fun s => K [U0] s)
 .ret)
 .skip))
 (.seq (.reg [] fun c r s K => lN s n5 (r q1) fun v0 => c n59 [v0, U0, U2] s fun v1 s => sto s n5 (r q1) v1 fun s => K [] s)
 (.seq (.drw [q3] fun c r s K => (fun z m => dN z m n1 n0 s n5 (r q1) fun v0 m s => fad n1 (r q1) fun v1 => ixA n4 n1 v1 I0 fun v2 => dL z m n8 n6 s v2 fun v3 m s => dS z m n16 n1 s n5 (r q2) v0 fun _ m s => K [v3] s) s.next mk0)
 .ret)))), [(.cellN n5 q2), (.tmp q3)], [q0], [q4, q5, q6, q8, q9, q10, q11, q12, q13, q14]⟩
/- attestor/channel.mixed -/
noncomputable def cf59 : HF := ⟨
(.seq (.reg [q3, q6] fun c r s K => bxx s (r q0) fun v0 s => alc s [zi, zu, zu, zu, zu] fun v1 s => K [v0, v1] s)
 (.seq (.reg [] fun c r s K => fad n0 (r q3) fun v0 => ld s v0 fun v1 => fad n1 (r q3) fun v2 => ixA n4 n1 v2 I0 fun v3 => ld s v3 fun v4 => c n84 [v1, v4, (r q1)] s fun v5 s => fad n1 (r q3) fun v6 => ixA n4 n1 v6 I0 fun v7 => sto s n1 v7 v5 fun s => K [] s)
 (.seq (.reg [] fun c r s K => fad n0 (r q3) fun v0 => ld s v0 fun v1 => fad n1 (r q3) fun v2 => ixA n4 n1 v2 I1 fun v3 => ld s v3 fun v4 => c n84 [v1, v4, (r q2)] s fun v5 s => fad n1 (r q3) fun v6 => ixA n4 n1 v6 I1 fun v7 => sto s n1 v7 v5 fun s => K [] s)
 (.seq (.reg [] fun c r s K => fad n0 (r q3) fun v0 => ld s v0 fun v1 => fad n1 (r q3) fun v2 => lN s n4 v2 fun v3 => c n85 [v1, v3] s fun v4 s => fad n1 (r q3) fun v5 => sto s n4 v5 v4 fun s => K [] s)
 (.seq (.reg [] fun c r s K => lN s n5 (r q3) fun v0 => sto s n5 (r q6) v0 fun s => K [] s)
 .ret))))), [(.cellN n5 q6)], [q0, q1, q2], [q7, q8, q9, q10, q11, q12, q13, q14, q15, q16, q17, q18, q19, q20, q21, q22, q23, q24, q25, q26, q27, q28, q29, q30, q31]⟩
/- attestor/sponge.Perm -/
noncomputable def cf85 : HF := ⟨
(.seq (.reg [q3, q4] fun c r s K => bxx s (r q1) fun v0 s => alc s [zu, zu, zu, zu] fun v1 s => K [v0, v1] s)
 (.seq (.seq (.reg [q8] fun c r s K => c n57 [(r q0)] s fun v0 s => nott v0 fun v1 => K [v1] s)
 (.cond (.t q8) (.seq (.reg [] fun c r s K => h_op3_build [zu, zu, zu, zu] [] c r s fun v0 s => sto s n4 (r q4) v0 fun s => K [] s)
 .ret)
 .skip))
 (.seq (.reg [q5] fun c r s K => c n60 [(r q0)] s fun v0 s => alc s [zu, zu, (.bool false)] fun v1 s => sto s n3 v1 v0 fun s => K [v1] s)
 (.seq (.drw [] fun c r s K => (fun z m => dN z m n1 n0 s n3 (r q5) fun v0 m s => dN z m n2 n0 s n3 (r q5) fun v1 m s => dN z m n4 n0 s n4 (r q3) fun v2 m s => dw3 m n8 n6 s (fun s q => c n117 [v1, v2] s q) fun v3 m s => dw3 m n16 n15 s (fun s q => c n61 [v0, v3] s q) fun v4 m s => dS z m n32 n31 s n4 (r q4) v4 fun _ m s => K [] s) s.next mk0)
 .ret)))), [(.cellN n4 q4)], [q0, q1], [q6, q7, q9, q10, q11, q12, q13, q14, q15, q16]⟩
/- attestor/channel.Absorb -/
noncomputable def cf26 : HF := ⟨
(.seq (.reg [q2, q4] fun c r s K => bxx s (r q0) fun v0 s => alc s [zi, zu, zu, zu, zu] fun v1 s => K [v0, v1] s)
 (.seq (.seq (.reg [q11] fun c r s K => fad n0 (r q2) fun v0 => ld s v0 fun v1 => c n57 [v1] s fun v2 s => nott v2 fun v3 => K [v3] s)
 (.cond (.t q11) (.seq (.reg [] fun c r s K => h_op3_build [zi, zu, zu, zu, zu] [] c r s fun v0 s => sto s n5 (r q4) v0 fun s => K [] s)
 .ret)
 .skip))
 (.seq (.seq (.reg [q13] fun c r s K => K [I0] s)
 (.block n0 (.loop (.seq (.reg [q14] fun c r s K => binK .lss (r q13) I4 fun v0 => K [v0] s)
 (.seq (.cond (.t q14) .skip
 (.exit n0))
 (.seq (.block n1 (.seq (.reg [q5] fun c r s K => K [(r q13)] s)
 (.drw [] fun c r s K => (fun z m => fad n0 (r q2) fun v0 => dL z m n4 n2 s v0 fun v1 m s => fad n1 (r q2) fun v2 => ixA n4 n1 v2 (r q5) fun v3 => dL z m n64 n56 s v3 fun v4 m s => dw1 m n128 (fun q => h_op3_buildS n1 n1 [zu] [(n0, n1, (.c v4))] c r s q) fun v5 m s => dw3 m (nat_lit 256) (nat_lit 254) s (fun s q => c n58 [v1, v5] s q) fun v6 m s => fad n1 (r q2) fun v7 => ixA n4 n1 v7 (r q5) fun v8 => dS z m (nat_lit 2048) (nat_lit 2047) s n1 v8 v6 fun _ m s => K [] s) s.next mk0)))
 (.reg [q13] fun c r s K => binK .add (r q13) I1 fun v0 => K [v0] s)))))))
 (.seq (.seq (.reg [q28, q29, q30] fun c r s K => lnS (r q1) fun v0 => K [(r q1), v0, I0] s)
 (.block n2 (.loop (.seq (.reg [q31] fun c r s K => binK .lss (r q30) (r q29) fun v0 => K [v0] s)
 (.seq (.cond (.t q31) .skip
 (.exit n2))
 (.seq (.block n3 (.seq (.reg [q7] fun c r s K => ixs n1 (r q28) (r q30) fun v0 => ld s v0 fun v1 => K [v1] s)
 (.reg [] fun c r s K => lN s n5 (r q2) fun v0 => c n59 [v0, (r q7), U1] s fun v1 s => sto s n5 (r q2) v1 fun s => K [] s)))
 (.reg [q30] fun c r s K => binK .add (r q30) I1 fun v0 => K [v0] s)))))))
 (.seq (.reg [] fun c r s K => lN s n5 (r q2) fun v0 => sto s n5 (r q4) v0 fun s => K [] s)
 .ret))))), [(.cellN n5 q4)], [q0, q1], [q8, q9, q10, q12, q15, q16, q17, q18, q19, q20, q21, q22, q23, q24, q25, q26, q27, q32, q33, q34, q35, q36, q37, q38]⟩
/- attestor/field.Sum -/
noncomputable def cf58 : HF := ⟨
(.seq (.reg [q4] fun c r s K => K [U0] s)
 (.seq (.reg [q5] fun c r s K => K [U0] s)
 (.seq (.seq (.reg [q8, q9, q10] fun c r s K => lnS (r q1) fun v0 => K [(r q1), v0, I0] s)
 (.block n0 (.loop (.seq (.reg [q11] fun c r s K => binK .lss (r q10) (r q9) fun v0 => K [v0] s)
 (.seq (.cond (.t q11) .skip
 (.exit n0))
 (.seq (.block n1 (.seq (.reg [q7] fun c r s K => ixs n1 (r q8) (r q10) fun v0 => ld s v0 fun v1 => K [v1] s)
 (.reg [q5] fun c r s K => c n84 [(r q0), (r q5), (r q7)] s fun v0 s => K [v0] s)))
 (.reg [q10] fun c r s K => binK .add (r q10) I1 fun v0 => K [v0] s)))))))
 (.seq (.reg [q4] fun c r s K => K [(r q5)] s)
 .ret)))), [(.tmp q4)], [q0, q1], [q12, q13, q14, q15, q16, q17, q18, q19]⟩
/- attestor/channel.AbsorbCap -/
noncomputable def cf27 : HF := ⟨
(.seq (.reg [q2, q4] fun c r s K => bxx s (r q0) fun v0 s => alc s [zi, zu, zu, zu, zu] fun v1 s => K [v0, v1] s)
 (.seq (.reg [q5] fun c r s K => K [(.sc zn)] s)
 (.seq (.seq (.reg [q8, q9, q10] fun c r s K => lnS (r q1) fun v0 => K [(r q1), v0, I0] s)
 (.block n0 (.loop (.seq (.reg [q11] fun c r s K => binK .lss (r q10) (r q9) fun v0 => K [v0] s)
 (.seq (.cond (.t q11) .skip
 (.exit n0))
 (.seq (.block n1 (.seq (.reg [q7] fun c r s K => ixs n2 (r q8) (r q10) fun v0 => lN s n2 v0 fun v1 => alc s [zu, zu] fun v2 s => sto s n2 v2 v1 fun s => K [v2] s)
 (.reg [q5] fun c r s K => h_op3_sliceA n2 n1 (.c (r q7)) none none none c r s fun v0 s => xA n1 n8 (r q5) v0 c r s fun v1 s => K [v1] s)))
 (.reg [q10] fun c r s K => binK .add (r q10) I1 fun v0 => K [v0] s)))))))
 (.seq (.reg [] fun c r s K => lN s n5 (r q2) fun v0 => c n26 [v0, (r q5)] s fun v1 s => sto s n5 (r q4) v1 fun s => K [] s)
 .ret)))), [(.cellN n5 q4)], [q0, q1], [q12, q13, q14, q15, q16, q17, q18, q19, q20]⟩
/- (*attestor/stream.Checker).proof -/
noncomputable def cf46 : HF := ⟨
(.seq (.reg [q2] fun c r s K => alc s [zn, zn, zn, zu, zn, zn, zu, zn] fun v0 s => K [v0] s)
 (.seq (.drw [q3] fun c r s K => (fun z m => xC (r q0) c r s fun v0 s => fad n25 v0 fun v1 => dL z m n8 n7 s v1 fun v2 m s => xC (r q0) c r s fun v3 s => fad n26 v3 fun v4 => dL z m n128 n112 s v4 fun v5 m s => binK .add v2 v5 fun v6 => binK .mul I4 v6 fun v7 => dw1 m (nat_lit 1024) (fun q => xM n1 n1 [zb] v7 v7 c r s q) fun v8 m s => K [v8] s) s.next mk0)
 (.seq (.reg [] fun c r s K => xC (r q0) c r s fun v0 s => fad n28 v0 fun v1 => ld s v1 fun v2 => h_op3_copy n1 (.c (r q3)) (.c v2) c r s fun v3 s => K [] s)
 (.seq (.reg [q4] fun c r s K => xC (r q0) c r s fun v0 s => fad n14 v0 fun v1 => lN s n9 v1 fun v2 => c n74 [v2, (r q3)] s fun v3 s => xE n0 v3 c r s fun v4 s => xE n1 v3 c r s fun v5 s => xE n2 v3 c r s fun v6 s => alc s [zn, zn, zn, zu, zn, zn, zu, zn] fun v7 s => sto s n8 v7 v4 fun s => K [v7] s)
 (.seq (.reg [] fun c r s K => lN s n8 (r q4) fun v0 => sto s n8 (r q2) v0 fun s => K [] s)
 .ret))))), [(.cellN n8 q2)], [q0], [q7, q8, q9, q10, q11, q12, q13, q14, q15, q16, q17, q18, q19, q20, q21, q22, q23, q25, q26, q27, q28, q29, q30, q24, q31, q32, q33, q5, q6, q34]⟩
/- attestor/proof.Decode -/
noncomputable def cf74 : HF := ⟨
(.seq (.reg [q2, q4, q5, q6] fun c r s K => bxx s (r q0) fun v0 s => alc s [zn, zn, zn, zu, zn, zn, zu, zn] fun v1 s => K [v0, v1, I0, I0] s)
 (.seq (.seq (.reg [q17] fun c r s K => lN s n9 (r q2) fun v0 => c n69 [v0] s fun v1 s => nott v1 fun v2 => K [v2] s)
 (.cond (.t q17) (.seq (.reg [q5, q6] fun c r s K => h_op3_build [zn, zn, zn, zu, zn, zn, zu, zn] [] c r s fun v0 s => sto s n8 (r q4) v0 fun s => K [I0, I1] s)
 .ret)
 .skip))
 (.seq (.reg [q7] fun c r s K => lN s n9 (r q2) fun v0 => c n105 [v0] s fun v1 s => alc s [zn, zn, zn, zu, zn, zn, zu, zn] fun v2 s => sto s n8 v2 v1 fun s => K [v2] s)
 (.seq (.reg [q8] fun c r s K => K [I0] s)
 (.seq (.seq (.reg [q22, q23, q24] fun c r s K => lN s n9 (r q2) fun v0 => c n45 [v0] s fun v1 s => lnS v1 fun v2 => K [v1, v2, I0] s)
 (.block n0 (.loop (.seq (.reg [q25] fun c r s K => binK .lss (r q24) (r q23) fun v0 => K [v0] s)
 (.seq (.cond (.t q25) .skip
 (.exit n0))
 (.seq (.block n1 (.seq (.reg [q10] fun c r s K => ixs n4 (r q22) (r q24) fun v0 => lN s n4 v0 fun v1 => alc s [zb, zi, zi, zi] fun v2 s => sto s n4 v2 v1 fun s => K [v2] s)
 (.seq (.reg [q11] fun c r s K => fad n3 (r q10) fun v0 => ld s v0 fun v1 => xM n1 n8 [zu] I0 v1 c r s fun v2 s => K [v2] s)
 (.seq (.seq (.reg [q32, q33] fun c r s K => fad n3 (r q10) fun v0 => ld s v0 fun v1 => K [v1, I0] s)
 (.block n2 (.loop (.seq (.reg [q34] fun c r s K => binK .lss (r q33) (r q32) fun v0 => K [v0] s)
 (.seq (.cond (.t q34) .skip
 (.exit n2))
 (.seq (.block n3 (.seq (.seq (.reg [q39] fun c r s K => binK .add (r q8) I4 fun v0 => lnS (r q1) fun v1 => binK .gtr v0 v1 fun v2 => K [v2] s)
 (.cond (.t q39) (.seq (.reg [q5, q6] fun c r s K => h_op3_build [zn, zn, zn, zu, zn, zn, zu, zn] [] c r s fun v0 s => lnS (r q1) fun v1 => sto s n8 (r q4) v0 fun s => K [v1, I5] s)
 .ret)
 .skip))
 (.seq (.reg [q12] fun c r s K => K [U0] s)
 (.seq (.seq (.reg [q47, q48, q49] fun c r s K => binK .add (r q8) I4 fun v0 => h_op3_sliceS n1 (.c (r q1)) (some (.c (r q8))) (some (.c v0)) none c r s fun v1 s => lnS v1 fun v2 => K [v1, v2, I0] s)
 (.block n4 (.loop (.seq (.reg [q50] fun c r s K => binK .lss (r q49) (r q48) fun v0 => K [v0] s)
 (.seq (.cond (.t q50) .skip
 (.exit n4))
 (.seq (.block n5 (.seq (.reg [q13, q14] fun c r s K => ixs n1 (r q47) (r q49) fun v0 => ld s v0 fun v1 => K [(r q49), v1] s)
 (.reg [q12] fun c r s K => cnv .u64 (r q14) fun v0 => binK .mul I8 (r q13) fun v1 => xS true v0 v1 c r s fun v2 s => binK .or (r q12) v2 fun v3 => K [v3] s)))
 (.reg [q49] fun c r s K => binK .add (r q49) I1 fun v0 => K [v0] s)))))))
 (.seq (.seq (.reg [q66] fun c r s K => fad n0 (r q2) fun v0 => ld s v0 fun v1 => c n24 [v1] s fun v2 s => binK .geq (r q12) v2 fun v3 => K [v3] s)
 (.cond (.t q66) (.seq (.reg [q5, q6] fun c r s K => h_op3_build [zn, zn, zn, zu, zn, zn, zu, zn] [] c r s fun v0 s => sto s n8 (r q4) v0 fun s => K [(r q8), I2] s)
 .ret)
 .skip))
 (.seq (.reg [q11] fun c r s K => h_op3_buildS n1 n1 [zu] [(n0, n1, (.c (r q12)))] c r s fun v0 s => xA n1 n8 (r q11) v0 c r s fun v1 s => K [v1] s)
 (.reg [q8] fun c r s K => binK .add (r q8) I4 fun v0 => K [v0] s)))))))
 (.reg [q33] fun c r s K => binK .add (r q33) I1 fun v0 => K [v0] s)))))))
 (.drw [] fun c r s K => (fun z m => dw3 m n1 n0 s (fun s q => c n106 [] s q) fun v0 m s => fad n0 (r q10) fun v1 => dL z m n4 n2 s v1 fun v2 m s => ixs n1 v0 v2 fun v3 => dL z m n16 n15 s v3 fun v4 m s => dN z m n32 n0 s n4 (r q10) fun v5 m s => dw3 m n64 n63 s (fun s q => h_op4_callV (.c v4) [(.c (r q7)), (.c v5)] c r s q) fun v6 m s => dw3 m (nat_lit 256) (nat_lit 255) s (fun s q => c n107 [v6, (r q11)] s q) fun v7 m s => K [] s) s.next mk0)))))
 (.reg [q24] fun c r s K => binK .add (r q24) I1 fun v0 => K [v0] s)))))))
 (.seq (.seq (.reg [q89] fun c r s K => lnS (r q1) fun v0 => binK .lss (r q8) v0 fun v1 => K [v1] s)
 (.cond (.t q89) (.seq (.reg [q5, q6] fun c r s K => h_op3_build [zn, zn, zn, zu, zn, zn, zu, zn] [] c r s fun v0 s => sto s n8 (r q4) v0 fun s => K [(r q8), I3] s)
 .ret)
 .skip))
 (.seq (.reg [q5, q6] fun c r s K => lN s n8 (r q7) fun v0 => sto s n8 (r q4) v0 fun s => K [I0, I0] s)
 .ret))))))), [(.cellN n8 q4), (.tmp q5), (.tmp q6)], [q0, q1], [q15, q16, q18, q19, q20, q21, q26, q27, q28, q29, q30, q31, q35, q36, q37, q38, q40, q41, q42, q43, q44, q45, q46, q51, q52, q53, q54, q55, q56, q57, q58, q59, q60, q61, q62, q63, q64, q65, q67, q68, q69, q70, q71, q72, q73, q74, q75, q76, q77, q78, q79, q80, q81, q82, q83, q84, q85, q86, q87, q88, q90, q91, q92]⟩
/- (attestor/proof.list).set -/
noncomputable def cf107 : HF := ⟨
(.seq (.reg [q2] fun c r s K => bxx s (r q0) fun v0 s => K [v0] s)
 (.block n0 (.seq (.reg [q23] fun c r s K => fad n0 (r q2) fun v0 => ld s v0 fun v1 => h_op4_eqv .ptr true (.c v1) (.c (.sc .nilp)) c r s fun v2 s => K [v2] s)
 (.cond (.t q23) (.reg [] fun c r s K => fad n0 (r q2) fun v0 => ld s v0 fun v1 => xC v1 c r s fun v2 s => sto s n1 v2 (r q1) fun s => K [] s)
 (.seq (.reg [q31] fun c r s K => fad n2 (r q2) fun v0 => ld s v0 fun v1 => h_op4_eqv .ptr true (.c v1) (.c (.sc .nilp)) c r s fun v2 s => K [v2] s)
 (.cond (.t q31) (.drw [] fun c r s K => (fun z m => fad n2 (r q2) fun v0 => dL z m n2 n1 s v0 fun v1 m s => ixs n1 (r q1) I0 fun v2 => dL z m n16 n12 s v2 fun v3 m s => xC v1 c r s fun v4 s => dS z m n64 n63 s n1 v4 v3 fun _ m s => K [] s) s.next mk0)
 (.seq (.reg [q41] fun c r s K => fad n3 (r q2) fun v0 => ld s v0 fun v1 => h_op4_eqv .ptr true (.c v1) (.c (.sc .nilp)) c r s fun v2 s => K [v2] s)
 (.cond (.t q41) (.reg [] fun c r s K => fad n3 (r q2) fun v0 => ld s v0 fun v1 => xC v1 c r s fun v2 s => h_op3_sliceA n8 n1 (.c v2) none none none c r s fun v3 s => h_op3_copy n1 (.c v3) (.c (r q1)) c r s fun v4 s => K [] s)
 (.seq (.reg [] fun c r s K => fad n1 (r q2) fun v0 => ld s v0 fun v1 => xC v1 c r s fun v2 s => sto s n1 v2 (.sc zn) fun s => K [] s)
 (.seq (.reg [q9] fun c r s K => c n138 [(r q1), I2] s fun v0 s => K [v0] s)
 (.block n1 (.rng n107 n0 (.t q9) [q10] (.reg [q4] fun c r s K => K [(r q10)] s)
 (.block n2 (.drw [] fun c r s K => (fun z m => fad n1 (r q2) fun v0 => dL z m n2 n1 s v0 fun v1 m s => fad n1 (r q2) fun v2 => dL z m n8 n4 s v2 fun v3 m s => xC v3 c r s fun v4 s => dL z m n32 n28 s v4 fun v5 m s => h_op5_arrAt n2 (.c (r q4)) c r s fun v6 s => dN z m (nat_lit 256) (nat_lit 192) s n2 v6 fun v7 m s => dw1 m (nat_lit 512) (fun q => h_op3_buildS n1 n2 [zu, zu] [(n0, n2, (.c v7))] c r s q) fun v8 m s => dw5 z m (nat_lit 1024) (nat_lit 1020) s (.more (.more (.append n2 n16 (.c v5) (.c v8)))) r (fun s q => xA n2 n16 v5 v8 c r s q) fun v9 m s => xC v1 c r s fun v10 s => dS z m (nat_lit 4096) (nat_lit 4095) s n1 v10 v9 fun _ m s => K [] s) s.next mk0)))))))))))))), [], [q0, q1], [q24, q25, q26, q27, q28, q29, q30, q32, q33, q34, q35, q36, q37, q38, q39, q40, q42, q43, q44, q45, q46, q47, q48, q49, q50, q5, q6, q7, q8, q11, q12, q13, q14, q15, q16, q17, q18, q19, q20, q21, q22]⟩
/- slices.Chunk[[]uint64,uint64] -/
noncomputable def cf138 : HF := ⟨
(.seq (.reg [q2, q3, q4] fun c r s K => bxx s (r q0) fun v0 s => bxx s (r q1) fun v1 s => K [v0, v1, (.sc (.lit .nilFunc))] s)
 (.seq (.seq (.reg [q6] fun c r s K => ld s (r q3) fun v0 => binK .lss v0 I1 fun v1 => K [v1] s)
 (.cond (.t q6) (.reg [] fun c r s K => h_op4_iface n9 (.c (.sc (.lit (.string ⟨#[99, 97, 110, 110, 111, 116, 32, 98, 101, 32, 108, 101, 115, 115, 32, 116, 104, 97, 110, 32, 49]⟩)))) c r s fun v0 s => h_op4_bad n102 c r s fun _ s => K [] s)
 .skip))
 (.seq (.reg [q4] fun c r s K => h_op4_makeFunc (nat_lit 164) [(.c (r q2)), (.c (r q3))] c r s fun v0 s => K [v0] s)
 .ret))), [(.tmp q4)], [q0, q1], [q5, q7, q8]⟩
/- slices.Chunk[[]uint64,uint64]$1 -/
noncomputable def cf164 : HF := ⟨
(.seq (.reg [q4] fun c r s K => K [I0] s)
 (.block n0 (.loop (.seq (.seq (.reg [q9] fun c r s K => ld s (r q1) fun v0 => lnS v0 fun v1 => binK .lss (r q4) v1 fun v2 => K [v2] s)
 (.cond (.t q9) .skip
 (.exit n0)))
 (.seq (.block n1 (.seq (.drw [q5] fun c r s K => (fun z m => dL z m n1 n0 s (r q2) fun v0 m s => dL z m n2 n0 s (r q1) fun v1 m s => h_op3_sliceS n1 (.c v1) (some (.c (r q4))) none none c r s fun v2 s => lnS v2 fun v3 => h_op4_minmax false [(.c v0), (.c v3)] c r s fun v4 s => K [v4] s) s.next mk0)
 (.seq (.reg [q30] fun c r s K => ld s (r q1) fun v0 => binK .add (r q4) (r q5) fun v1 => binK .add (r q4) (r q5) fun v2 => h_op3_sliceS n1 (.c v0) (some (.c (r q4))) (some (.c v1)) (some (.c v2)) c r s fun v3 s => h_op4_callV (.c (r q0)) [(.c v3)] c r s fun v4 s => nott v4 fun v5 => K [v5] s)
 (.cond (.t q30) .ret
 .skip))))
 (.reg [q4] fun c r s K => ld s (r q2) fun v0 => binK .add (r q4) v0 fun v1 => K [v1] s)))))), [], [q0, q1, q2], [q6, q7, q8, q13, q14, q15, q16, q17, q18, q19, q20, q21, q22, q23, q24, q25, q26, q27, q28, q29, q10, q11, q12]⟩
/- attestor/proof.blank -/
noncomputable def cf105 : HF := ⟨
(.seq (.reg [q1, q2] fun c r s K => bxx s (r q0) fun v0 s => alc s [zn, zn, zn, zu, zn, zn, zu, zn] fun v1 s => K [v0, v1] s)
 (.seq (.drw [q3] fun c r s K => (fun z m => dN z m n1 n0 s n9 (r q1) fun v0 m s => dw3 m n2 n1 s (fun s q => c n103 [v0] s q) fun v1 m s => fad n4 (r q1) fun v2 => dL z m n16 n8 s v2 fun v3 m s => dw1 m n4 (fun q => xM n1 n24 [zn] v1 v1 c r s q) fun v4 m s => dw1 m n32 (fun q => xM n13 (nat_lit 312) [zn, zn, zn, zn, zn, zn, zn, zn, zn, zn, zn, zn, zn] v3 v3 c r s q) fun v5 m s => h_op3_build [zn, zn, zn, zu, zn, zn, zu, zn] [(n4, n1, (.c v4)), (n7, n1, (.c v5))] c r s fun v6 s => dw1 m n128 (fun q => alc s [zn, zn, zn, zu, zn, zn, zu, zn] q) fun v7 m s => dS z m (nat_lit 256) (nat_lit 255) s n8 v7 v6 fun _ m s => K [v7] s) s.next mk0)
 (.seq (.seq (.reg [q14, q15] fun c r s K => fad n7 (r q3) fun v0 => ld s v0 fun v1 => lnS v1 fun v2 => K [v2, I0] s)
 (.block n0 (.loop (.seq (.reg [q16] fun c r s K => binK .lss (r q15) (r q14) fun v0 => K [v0] s)
 (.seq (.cond (.t q16) .skip
 (.exit n0))
 (.seq (.block n1 (.seq (.reg [q4] fun c r s K => K [(r q15)] s)
 (.drw [] fun c r s K => (fun z m => fad n7 (r q3) fun v0 => dL z m n2 n1 s v0 fun v1 m s => dN z m n8 n0 s n9 (r q1) fun v2 m s => dw3 m n16 n8 s (fun s q => c n103 [v2] s q) fun v3 m s => dw1 m n32 (fun q => xM n9 n88 [zu, zu, zu, zu, zu, zu, zu, zu, zn] v3 v3 c r s q) fun v4 m s => ixs n13 v1 (r q4) fun v5 => fad n12 v5 fun v6 => dS z m (nat_lit 256) (nat_lit 255) s n1 v6 v4 fun _ m s => K [] s) s.next mk0)))
 (.reg [q15] fun c r s K => binK .add (r q15) I1 fun v0 => K [v0] s)))))))
 (.seq (.reg [] fun c r s K => lN s n8 (r q3) fun v0 => sto s n8 (r q2) v0 fun s => K [] s)
 .ret)))), [(.cellN n8 q2)], [q0], [q5, q6, q8, q9, q7, q10, q11, q12, q13, q17, q18, q19, q20, q21, q22, q23, q24, q25, q26, q27]⟩
/- attestor/proof.Size -/
noncomputable def cf17 : HF := ⟨
(.seq (.reg [q1, q2] fun c r s K => bxx s (r q0) fun v0 s => K [v0, I0] s)
 (.seq (.reg [q3] fun c r s K => K [I0] s)
 (.seq (.seq (.reg [q7, q8, q9] fun c r s K => lN s n9 (r q1) fun v0 => c n45 [v0] s fun v1 s => lnS v1 fun v2 => K [v1, v2, I0] s)
 (.block n0 (.loop (.seq (.reg [q10] fun c r s K => binK .lss (r q9) (r q8) fun v0 => K [v0] s)
 (.seq (.cond (.t q10) .skip
 (.exit n0))
 (.seq (.block n1 (.seq (.reg [q5] fun c r s K => ixs n4 (r q7) (r q9) fun v0 => lN s n4 v0 fun v1 => alc s [zb, zi, zi, zi] fun v2 s => sto s n4 v2 v1 fun s => K [v2] s)
 (.reg [q3] fun c r s K => fad n3 (r q5) fun v0 => ld s v0 fun v1 => binK .mul I4 v1 fun v2 => binK .add (r q3) v2 fun v3 => K [v3] s)))
 (.reg [q9] fun c r s K => binK .add (r q9) I1 fun v0 => K [v0] s)))))))
 (.seq (.reg [q2] fun c r s K => K [(r q3)] s)
 .ret)))), [(.tmp q2)], [q0], [q6, q11, q12, q13, q14, q15, q16, q17, q18, q19]⟩
/- slices.Clone[[]uint64,uint64] -/
noncomputable def cf16 : HF := ⟨
(.seq (.reg [q2] fun c r s K => K [(.sc zn)] s)
 (.seq (.seq (.reg [q4] fun c r s K => h_op4_eqv .slice false (.c (r q0)) (.c (.sc zn)) c r s fun v0 s => K [v0] s)
 (.cond (.t q4) (.seq (.reg [q2] fun c r s K => K [(.sc zn)] s)
 .ret)
 .skip))
 (.seq (.reg [q2] fun c r s K => h_op3_buildS n0 n1 [] [] c r s fun v0 s => xA n1 n8 v0 (r q0) c r s fun v1 s => K [v1] s)
 .ret))), [(.tmp q2)], [q0], [q3, q5, q6, q7]⟩
/- attestor/stream.ownKey -/
noncomputable def cf15 : HF := ⟨
(.seq (.reg [q1, q2] fun c r s K => bxx s (r q0) fun v0 s => alc s [zi, zi, zi, zi, zi, zi, zi, zi, zn, zn, zn, zn, zi, zn] fun v1 s => K [v0, v1] s)
 (.seq (.reg [q3] fun c r s K => fad n4 (r q1) fun v0 => K [v0] s)
 (.seq (.reg [] fun c r s K => fad n13 (r q1) fun v0 => ld s v0 fun v1 => c n32 [v1] s fun v2 s => fad n13 (r q1) fun v3 => sto s n1 v3 v2 fun s => K [] s)
 (.seq (.reg [] fun c r s K => xC (r q3) c r s fun v0 s => fad n4 v0 fun v1 => ld s v1 fun v2 => c n33 [v2, (.sc (.fn n34))] s fun v3 s => xC (r q3) c r s fun v4 s => fad n4 v4 fun v5 => sto s n1 v5 v3 fun s => K [] s)
 (.seq (.reg [] fun c r s K => xC (r q3) c r s fun v0 s => fad n5 v0 fun v1 => ld s v1 fun v2 => c n35 [v2, (.sc (.fn n36))] s fun v3 s => xC (r q3) c r s fun v4 s => fad n5 v4 fun v5 => sto s n1 v5 v3 fun s => K [] s)
 (.seq (.reg [] fun c r s K => xC (r q3) c r s fun v0 s => fad n6 v0 fun v1 => ld s v1 fun v2 => c n40 [v2, (.sc (.fn n41))] s fun v3 s => xC (r q3) c r s fun v4 s => fad n6 v4 fun v5 => sto s n1 v5 v3 fun s => K [] s)
 (.seq (.reg [] fun c r s K => xC (r q3) c r s fun v0 s => fad n7 v0 fun v1 => ld s v1 fun v2 => c n43 [v2, (.sc (.fn n44))] s fun v3 s => xC (r q3) c r s fun v4 s => fad n7 v4 fun v5 => sto s n1 v5 v3 fun s => K [] s)
 (.seq (.reg [] fun c r s K => lN s n14 (r q1) fun v0 => sto s n14 (r q2) v0 fun s => K [] s)
 .ret)))))))), [(.cellN n14 q2)], [q0], [q4, q5, q6, q7, q8, q9, q10, q11, q12, q13, q14, q15, q16, q17, q18, q19, q20, q21, q22, q23, q24, q25, q26, q27, q28, q29, q30, q31, q32, q33, q34, q35, q36, q37, q38, q39, q40, q41]⟩
/- attestor/stream.ownKey$3 -/
noncomputable def cf44 : HF := ⟨
(.seq (.reg [q1, q2] fun c r s K => bxx s (r q0) fun v0 s => alc s [zn, zn, zb, zi] fun v1 s => K [v0, v1] s)
 (.seq (.drw [] fun c r s K => (fun z m => fad n0 (r q1) fun v0 => dL z m n2 n1 s v0 fun v1 m s => dw3 m n4 n3 s (fun s q => c n39 [v1] s q) fun v2 m s => fad n1 (r q1) fun v3 => dL z m n16 n8 s v3 fun v4 m s => dw3 m n32 n31 s (fun s q => c n39 [v4] s q) fun v5 m s => fad n0 (r q1) fun v6 => dS z m n128 n127 s n1 v6 v2 fun _ m s => fad n1 (r q1) fun v8 => dS z m (nat_lit 512) (nat_lit 511) s n1 v8 v5 fun _ m s => K [] s) s.next mk0)
 (.seq (.reg [] fun c r s K => lN s n4 (r q1) fun v0 => sto s n4 (r q2) v0 fun s => K [] s)
 .ret))), [(.cellN n4 q2)], [q0], [q3, q4, q5, q6, q7, q8, q9, q10, q11]⟩
/- attestor/stream.flat[attestor/api.Var] -/
noncomputable def cf39 : HF := ⟨
(.seq (.reg [q2] fun c r s K => K [(.sc zn)] s)
 (.seq (.reg [q2] fun c r s K => c n68 [(r q0)] s fun v0 s => K [v0] s)
 .ret)), [(.tmp q2)], [q0], [q3, q4]⟩
/- slices.Clone[[]attestor/api.Var,attestor/api.Var] -/
noncomputable def cf68 : HF := ⟨
(.seq (.reg [q2] fun c r s K => K [(.sc zn)] s)
 (.seq (.seq (.reg [q4] fun c r s K => h_op4_eqv .slice false (.c (r q0)) (.c (.sc zn)) c r s fun v0 s => K [v0] s)
 (.cond (.t q4) (.seq (.reg [q2] fun c r s K => K [(.sc zn)] s)
 .ret)
 .skip))
 (.seq (.reg [q2] fun c r s K => h_op3_buildS n0 n2 [] [] c r s fun v0 s => xA n2 n16 v0 (r q0) c r s fun v1 s => K [v1] s)
 .ret))), [(.tmp q2)], [q0], [q3, q5, q6, q7]⟩
/- attestor/stream.each[attestor/api.Lookup] -/
noncomputable def cf43 : HF := ⟨
(.seq (.reg [q4] fun c r s K => K [(.sc zn)] s)
 (.seq (.reg [q5] fun c r s K => K [(.sc zn)] s)
 (.seq (.seq (.reg [q8, q9, q10] fun c r s K => lnS (r q0) fun v0 => K [(r q0), v0, I0] s)
 (.block n0 (.loop (.seq (.reg [q11] fun c r s K => binK .lss (r q10) (r q9) fun v0 => K [v0] s)
 (.seq (.cond (.t q11) .skip
 (.exit n0))
 (.seq (.block n1 (.seq (.reg [q7] fun c r s K => ixs n4 (r q8) (r q10) fun v0 => lN s n4 v0 fun v1 => alc s [zn, zn, zb, zi] fun v2 s => sto s n4 v2 v1 fun s => K [v2] s)
 (.reg [q5] fun c r s K => lN s n4 (r q7) fun v0 => h_op4_callV (.c (r q1)) [(.c v0)] c r s fun v1 s => h_op3_buildS n1 n4 [zn, zn, zb, zi] [(n0, n4, (.c v1))] c r s fun v2 s => xA n4 n64 (r q5) v2 c r s fun v3 s => K [v3] s)))
 (.reg [q10] fun c r s K => binK .add (r q10) I1 fun v0 => K [v0] s)))))))
 (.seq (.reg [q4] fun c r s K => K [(r q5)] s)
 .ret)))), [(.tmp q4)], [q0, q1], [q12, q13, q14, q15, q16, q17, q18, q19, q20, q21]⟩
/- attestor/stream.ownKey$2 -/
noncomputable def cf41 : HF := ⟨
(.seq (.reg [q1, q2] fun c r s K => bxx s (r q0) fun v0 s => alc s [zn, zn] fun v1 s => K [v0, v1] s)
 (.seq (.drw [] fun c r s K => (fun z m => fad n0 (r q1) fun v0 => dL z m n2 n1 s v0 fun v1 m s => dw3 m n4 n3 s (fun s q => c n42 [v1, (.sc (.fn n39))] s q) fun v2 m s => fad n1 (r q1) fun v3 => dL z m n16 n8 s v3 fun v4 m s => dw3 m n32 n31 s (fun s q => c n42 [v4, (.sc (.fn n39))] s q) fun v5 m s => h_op3_build [zn, zn] [(n0, n1, (.c v2)), (n1, n1, (.c v5))] c r s fun v6 s => dS z m n128 n127 s n2 (r q2) v6 fun _ m s => K [] s) s.next mk0)
 .ret)), [(.cellN n2 q2)], [q0], [q3, q4, q5, q6, q7, q8, q9]⟩
/- attestor/stream.each[[]attestor/api.Var] -/
noncomputable def cf42 : HF := ⟨
(.seq (.reg [q4] fun c r s K => K [(.sc zn)] s)
 (.seq (.reg [q5] fun c r s K => K [(.sc zn)] s)
 (.seq (.seq (.reg [q8, q9, q10] fun c r s K => lnS (r q0) fun v0 => K [(r q0), v0, I0] s)
 (.block n0 (.loop (.seq (.reg [q11] fun c r s K => binK .lss (r q10) (r q9) fun v0 => K [v0] s)
 (.seq (.cond (.t q11) .skip
 (.exit n0))
 (.seq (.block n1 (.seq (.reg [q7] fun c r s K => ixs n1 (r q8) (r q10) fun v0 => ld s v0 fun v1 => K [v1] s)
 (.reg [q5] fun c r s K => h_op4_callV (.c (r q1)) [(.c (r q7))] c r s fun v0 s => h_op3_buildS n1 n1 [zn] [(n0, n1, (.c v0))] c r s fun v1 s => xA n1 n24 (r q5) v1 c r s fun v2 s => K [v2] s)))
 (.reg [q10] fun c r s K => binK .add (r q10) I1 fun v0 => K [v0] s)))))))
 (.seq (.reg [q4] fun c r s K => K [(r q5)] s)
 .ret)))), [(.tmp q4)], [q0, q1], [q12, q13, q14, q15, q16, q17, q18, q19, q20, q21]⟩
/- attestor/stream.each[attestor/api.Perm] -/
noncomputable def cf40 : HF := ⟨
(.seq (.reg [q4] fun c r s K => K [(.sc zn)] s)
 (.seq (.reg [q5] fun c r s K => K [(.sc zn)] s)
 (.seq (.seq (.reg [q8, q9, q10] fun c r s K => lnS (r q0) fun v0 => K [(r q0), v0, I0] s)
 (.block n0 (.loop (.seq (.reg [q11] fun c r s K => binK .lss (r q10) (r q9) fun v0 => K [v0] s)
 (.seq (.cond (.t q11) .skip
 (.exit n0))
 (.seq (.block n1 (.seq (.reg [q7] fun c r s K => ixs n2 (r q8) (r q10) fun v0 => lN s n2 v0 fun v1 => alc s [zn, zn] fun v2 s => sto s n2 v2 v1 fun s => K [v2] s)
 (.reg [q5] fun c r s K => lN s n2 (r q7) fun v0 => h_op4_callV (.c (r q1)) [(.c v0)] c r s fun v1 s => h_op3_buildS n1 n2 [zn, zn] [(n0, n2, (.c v1))] c r s fun v2 s => xA n2 n48 (r q5) v2 c r s fun v3 s => K [v3] s)))
 (.reg [q10] fun c r s K => binK .add (r q10) I1 fun v0 => K [v0] s)))))))
 (.seq (.reg [q4] fun c r s K => K [(r q5)] s)
 .ret)))), [(.tmp q4)], [q0, q1], [q12, q13, q14, q15, q16, q17, q18, q19, q20, q21]⟩
/- attestor/stream.ownKey$1 -/
noncomputable def cf36 : HF := ⟨
(.seq (.reg [q1, q2] fun c r s K => bxx s (r q0) fun v0 s => alc s [zb, zn] fun v1 s => K [v0, v1] s)
 (.seq (.reg [] fun c r s K => fad n1 (r q1) fun v0 => ld s v0 fun v1 => c n37 [v1, (.sc (.fn n38))] s fun v2 s => fad n1 (r q1) fun v3 => sto s n1 v3 v2 fun s => K [] s)
 (.seq (.reg [] fun c r s K => lN s n2 (r q1) fun v0 => sto s n2 (r q2) v0 fun s => K [] s)
 .ret))), [(.cellN n2 q2)], [q0], [q3, q4, q5, q6, q7]⟩
/- attestor/stream.ownKey$1$1 -/
noncomputable def cf38 : HF := ⟨
(.seq (.reg [q1, q2] fun c r s K => bxx s (r q0) fun v0 s => alc s [zu, zn] fun v1 s => K [v0, v1] s)
 (.seq (.reg [] fun c r s K => fad n1 (r q1) fun v0 => ld s v0 fun v1 => c n39 [v1] s fun v2 s => fad n1 (r q1) fun v3 => sto s n1 v3 v2 fun s => K [] s)
 (.seq (.reg [] fun c r s K => lN s n2 (r q1) fun v0 => sto s n2 (r q2) v0 fun s => K [] s)
 .ret))), [(.cellN n2 q2)], [q0], [q3, q4, q5, q6, q7]⟩
/- attestor/stream.each[attestor/api.Mono] -/
noncomputable def cf37 : HF := ⟨
(.seq (.reg [q4] fun c r s K => K [(.sc zn)] s)
 (.seq (.reg [q5] fun c r s K => K [(.sc zn)] s)
 (.seq (.seq (.reg [q8, q9, q10] fun c r s K => lnS (r q0) fun v0 => K [(r q0), v0, I0] s)
 (.block n0 (.loop (.seq (.reg [q11] fun c r s K => binK .lss (r q10) (r q9) fun v0 => K [v0] s)
 (.seq (.cond (.t q11) .skip
 (.exit n0))
 (.seq (.block n1 (.seq (.reg [q7] fun c r s K => ixs n2 (r q8) (r q10) fun v0 => lN s n2 v0 fun v1 => alc s [zu, zn] fun v2 s => sto s n2 v2 v1 fun s => K [v2] s)
 (.reg [q5] fun c r s K => lN s n2 (r q7) fun v0 => h_op4_callV (.c (r q1)) [(.c v0)] c r s fun v1 s => h_op3_buildS n1 n2 [zu, zn] [(n0, n2, (.c v1))] c r s fun v2 s => xA n2 n32 (r q5) v2 c r s fun v3 s => K [v3] s)))
 (.reg [q10] fun c r s K => binK .add (r q10) I1 fun v0 => K [v0] s)))))))
 (.seq (.reg [q4] fun c r s K => K [(r q5)] s)
 .ret)))), [(.tmp q4)], [q0, q1], [q12, q13, q14, q15, q16, q17, q18, q19, q20, q21]⟩
/- attestor/stream.each[attestor/api.Rule] -/
noncomputable def cf35 : HF := ⟨
(.seq (.reg [q4] fun c r s K => K [(.sc zn)] s)
 (.seq (.reg [q5] fun c r s K => K [(.sc zn)] s)
 (.seq (.seq (.reg [q8, q9, q10] fun c r s K => lnS (r q0) fun v0 => K [(r q0), v0, I0] s)
 (.block n0 (.loop (.seq (.reg [q11] fun c r s K => binK .lss (r q10) (r q9) fun v0 => K [v0] s)
 (.seq (.cond (.t q11) .skip
 (.exit n0))
 (.seq (.block n1 (.seq (.reg [q7] fun c r s K => ixs n2 (r q8) (r q10) fun v0 => lN s n2 v0 fun v1 => alc s [zb, zn] fun v2 s => sto s n2 v2 v1 fun s => K [v2] s)
 (.reg [q5] fun c r s K => lN s n2 (r q7) fun v0 => h_op4_callV (.c (r q1)) [(.c v0)] c r s fun v1 s => h_op3_buildS n1 n2 [zb, zn] [(n0, n2, (.c v1))] c r s fun v2 s => xA n2 n32 (r q5) v2 c r s fun v3 s => K [v3] s)))
 (.reg [q10] fun c r s K => binK .add (r q10) I1 fun v0 => K [v0] s)))))))
 (.seq (.reg [q4] fun c r s K => K [(r q5)] s)
 .ret)))), [(.tmp q4)], [q0, q1], [q12, q13, q14, q15, q16, q17, q18, q19, q20, q21]⟩
/- attestor/stream.flat[uint64] -/
noncomputable def cf34 : HF := ⟨
(.seq (.reg [q2] fun c r s K => K [(.sc zn)] s)
 (.seq (.reg [q2] fun c r s K => c n16 [(r q0)] s fun v0 s => K [v0] s)
 .ret)), [(.tmp q2)], [q0], [q3, q4]⟩
/- attestor/stream.each[[]uint64] -/
noncomputable def cf33 : HF := ⟨
(.seq (.reg [q4] fun c r s K => K [(.sc zn)] s)
 (.seq (.reg [q5] fun c r s K => K [(.sc zn)] s)
 (.seq (.seq (.reg [q8, q9, q10] fun c r s K => lnS (r q0) fun v0 => K [(r q0), v0, I0] s)
 (.block n0 (.loop (.seq (.reg [q11] fun c r s K => binK .lss (r q10) (r q9) fun v0 => K [v0] s)
 (.seq (.cond (.t q11) .skip
 (.exit n0))
 (.seq (.block n1 (.seq (.reg [q7] fun c r s K => ixs n1 (r q8) (r q10) fun v0 => ld s v0 fun v1 => K [v1] s)
 (.reg [q5] fun c r s K => h_op4_callV (.c (r q1)) [(.c (r q7))] c r s fun v0 s => h_op3_buildS n1 n1 [zn] [(n0, n1, (.c v0))] c r s fun v1 s => xA n1 n24 (r q5) v1 c r s fun v2 s => K [v2] s)))
 (.reg [q10] fun c r s K => binK .add (r q10) I1 fun v0 => K [v0] s)))))))
 (.seq (.reg [q4] fun c r s K => K [(r q5)] s)
 .ret)))), [(.tmp q4)], [q0, q1], [q12, q13, q14, q15, q16, q17, q18, q19, q20, q21]⟩
/- attestor/stream.flat[attestor/api.Digest] -/
noncomputable def cf32 : HF := ⟨
(.seq (.reg [q2] fun c r s K => K [(.sc zn)] s)
 (.seq (.reg [q2] fun c r s K => c n67 [(r q0)] s fun v0 s => K [v0] s)
 .ret)), [(.tmp q2)], [q0], [q3, q4]⟩
/- slices.Clone[[]attestor/api.Digest,attestor/api.Digest] -/
noncomputable def cf67 : HF := ⟨
(.seq (.reg [q2] fun c r s K => K [(.sc zn)] s)
 (.seq (.seq (.reg [q4] fun c r s K => h_op4_eqv .slice false (.c (r q0)) (.c (.sc zn)) c r s fun v0 s => K [v0] s)
 (.cond (.t q4) (.seq (.reg [q2] fun c r s K => K [(.sc zn)] s)
 .ret)
 .skip))
 (.seq (.reg [q2] fun c r s K => h_op3_buildS n0 n2 [] [] c r s fun v0 s => xA n2 n16 v0 (r q0) c r s fun v1 s => K [v1] s)
 .ret))), [(.tmp q2)], [q0], [q3, q5, q6, q7]⟩
/- attestor/prover.Begin -/
noncomputable def cf13 : HF := ⟨
(.seq (.reg [q2, q4, q5] fun c r s K => bxx s (r q0) fun v0 s => alc s [zi, zu, zu, zu, zu] fun v1 s => K [v0, v1, I0] s)
 (.seq (.reg [q6, q7] fun c r s K => lN s n14 (r q2) fun v0 => c n22 [v0] s fun v1 s => xE n0 v1 c r s fun v2 s => xE n1 v1 c r s fun v3 s => alc s [zi, zi, zi, zi, zn, zn, zn, zn] fun v4 s => sto s n8 v4 v2 fun s => K [v4, v3] s)
 (.seq (.seq (.drw [q38] fun c r s K => (fun z m => nott (r q7) fun v0 => jnD false v0 (fun jj => jj (r q1) m s) m s fun v1 m s => jnD false v0 (fun jj => lnS v1 fun v => jj v m s) m s fun v2 m s => jnD false v0 (fun jj => fad n3 (r q6) fun v => jj v m s) m s fun v3 m s => jnD false v0 (fun jj => dL z m n64 n39 s v3 jj) m s fun v4 m s => jnD false v0 (fun jj => binK .neq v2 v4 fun v => jj v m s) m s fun v5 m s => pck v0 tt v5 fun v6 => jnD false v6 (fun jj => jj (r q1) m s) m s fun v7 m s => jnD false v6 (fun jj => lnS v7 fun v => jj v m s) m s fun v8 m s => jnD false v6 (fun jj => binK .gtr v8 I0 fun v => jj v m s) m s fun v9 m s => jnD false v6 (fun jj => jj v9 m s) m s fun v10 m s => jnD true v10 (fun jj => jj (r q1) m s) m s fun v11 m s => jnD true v10 (fun jj => dw3 m (nat_lit 32768) (nat_lit 32767) s (fun s q => c n23 [v11] s q) jj) m s fun v12 m s => jnD true v10 (fun jj => fad n0 (r q6) fun v => jj v m s) m s fun v13 m s => jnD true v10 (fun jj => dL z m (nat_lit 131072) (nat_lit 81919) s v13 jj) m s fun v14 m s => jnD true v10 (fun jj => dw3 m (nat_lit 262144) (nat_lit 262143) s (fun s q => c n24 [v14] s q) jj) m s fun v15 m s => jnD true v10 (fun jj => binK .geq v12 v15 fun v => jj v m s) m s fun v16 m s => jnD false v6 (fun jj => pck v10 v16 ff fun v => jj v m s) m s fun v17 m s => pck v6 tt v17 fun v18 => K [v18] s) s.next mk0)
 (.cond (.t q38) (.seq (.reg [q5] fun c r s K => h_op3_build [zi, zu, zu, zu, zu] [] c r s fun v0 s => sto s n5 (r q4) v0 fun s => K [I1] s)
 .ret)
 .skip))
 (.seq (.reg [q8] fun c r s K => fad n0 (r q6) fun v0 => ld s v0 fun v1 => c n25 [v1] s fun v2 s => alc s [zi, zu, zu, zu, zu] fun v3 s => sto s n5 v3 v2 fun s => K [v3] s)
 (.seq (.seq (.reg [q59, q60, q61] fun c r s K => fad n0 (r q6) fun v0 => ld s v0 fun v1 => fad n1 (r q6) fun v2 => ld s v2 fun v3 => fad n0 (r q2) fun v4 => fad n0 v4 fun v5 => ld s v5 fun v6 => fad n0 (r q2) fun v7 => fad n1 v7 fun v8 => ld s v8 fun v9 => fad n0 (r q2) fun v10 => fad n2 v10 fun v11 => ld s v11 fun v12 => fad n0 (r q2) fun v13 => fad n3 v13 fun v14 => ld s v14 fun v15 => h_op3_buildS n6 n1 [zi, zi, zi, zi, zi, zi] [(n0, n1, (.c v1)), (n1, n1, (.c v3)), (n2, n1, (.c v6)), (n3, n1, (.c v9)), (n4, n1, (.c v12)), (n5, n1, (.c v15))] c r s fun v16 s => lnS v16 fun v17 => K [v16, v17, I0] s)
 (.block n0 (.loop (.seq (.reg [q62] fun c r s K => binK .lss (r q61) (r q60) fun v0 => K [v0] s)
 (.seq (.cond (.t q62) .skip
 (.exit n0))
 (.seq (.block n1 (.seq (.reg [q10] fun c r s K => ixs n1 (r q59) (r q61) fun v0 => ld s v0 fun v1 => K [v1] s)
 (.reg [] fun c r s K => lN s n5 (r q8) fun v0 => cnv .u64 (r q10) fun v1 => h_op3_buildS n1 n1 [zu] [(n0, n1, (.c v1))] c r s fun v2 s => c n26 [v0, v2] s fun v3 s => sto s n5 (r q8) v3 fun s => K [] s)))
 (.reg [q61] fun c r s K => binK .add (r q61) I1 fun v0 => K [v0] s)))))))
 (.seq (.reg [] fun c r s K => lN s n5 (r q8) fun v0 => fad n13 (r q2) fun v1 => ld s v1 fun v2 => c n27 [v0, v2] s fun v3 s => sto s n5 (r q8) v3 fun s => K [] s)
 (.seq (.drw [q11] fun c r s K => (fun z m => fad n0 (r q6) fun v0 => dL z m n2 n1 s v0 fun v1 m s => dN z m n4 n0 s n8 (r q6) fun v2 m s => dw3 m n8 n4 s (fun s q => c n29 [v2] s q) fun v3 m s => dw3 m n16 n15 s (fun s q => c n28 [v1, v3] s q) fun v4 m s => dw1 m n32 (fun q => alc s [zu, zu] q) fun v5 m s => dS z m n64 n63 s n2 v5 v4 fun _ m s => K [v5] s) s.next mk0)
 (.seq (.reg [] fun c r s K => lN s n5 (r q8) fun v0 => ixA n2 n1 (r q11) I0 fun v1 => ld s v1 fun v2 => ixA n2 n1 (r q11) I1 fun v3 => ld s v3 fun v4 => h_op3_buildS n2 n1 [zu, zu] [(n0, n1, (.c v2)), (n1, n1, (.c v4))] c r s fun v5 s => c n26 [v0, v5] s fun v6 s => sto s n5 (r q8) v6 fun s => K [] s)
 (.seq (.reg [q5] fun c r s K => lN s n5 (r q8) fun v0 => c n26 [v0, (r q1)] s fun v1 s => sto s n5 (r q4) v1 fun s => K [I0] s)
 .ret))))))))), [(.cellN n5 q4), (.tmp q5)], [q0, q1], [q13, q14, q12, q15, q16, q17, q18, q19, q20, q21, q22, q23, q24, q25, q26, q27, q28, q29, q30, q31, q32, q33, q34, q35, q36, q37, q39, q40, q41, q42, q43, q44, q45, q46, q47, q48, q49, q50, q51, q52, q53, q54, q55, q56, q57, q58, q63, q64, q65, q66, q67, q68, q69, q70, q71, q72, q73, q74, q75, q76, q77, q78, q79, q80, q81, q82, q83, q84, q85, q86, q87, q88, q89]⟩
/- attestor/system.Words -/
noncomputable def cf29 : HF := ⟨
(.seq (.reg [q1, q2] fun c r s K => bxx s (r q0) fun v0 s => K [v0, (.sc zn)] s)
 (.seq (.seq (.reg [q18] fun c r s K => lN s n8 (r q1) fun v0 => c n62 [v0] s fun v1 s => nott v1 fun v2 => K [v2] s)
 (.cond (.t q18) (.seq (.reg [q2] fun c r s K => K [(.sc zn)] s)
 .ret)
 .skip))
 (.seq (.reg [q3] fun c r s K => alc s [zn] fun v0 s => K [v0] s)
 (.seq (.reg [q4] fun c r s K => h_op4_makeFunc n63 [(.c (r q3))] c r s fun v0 s => alc s [(.lit .nilFunc)] fun v1 s => sto s n1 v1 v0 fun s => K [v1] s)
 (.seq (.reg [q5] fun c r s K => h_op4_makeFunc n64 [(.c (r q4))] c r s fun v0 s => K [v0] s)
 (.seq (.reg [] fun c r s K => ld s (r q4) fun v0 => fad n0 (r q1) fun v1 => ld s v1 fun v2 => fad n1 (r q1) fun v3 => ld s v3 fun v4 => fad n2 (r q1) fun v5 => ld s v5 fun v6 => fad n3 (r q1) fun v7 => ld s v7 fun v8 => fad n4 (r q1) fun v9 => ld s v9 fun v10 => lnS v10 fun v11 => fad n5 (r q1) fun v12 => ld s v12 fun v13 => lnS v13 fun v14 => fad n6 (r q1) fun v15 => ld s v15 fun v16 => lnS v16 fun v17 => fad n7 (r q1) fun v18 => ld s v18 fun v19 => lnS v19 fun v20 => h_op3_buildS n8 n1 [zi, zi, zi, zi, zi, zi, zi, zi] [(n0, n1, (.c v2)), (n1, n1, (.c v4)), (n2, n1, (.c v6)), (n3, n1, (.c v8)), (n4, n1, (.c v11)), (n5, n1, (.c v14)), (n6, n1, (.c v17)), (n7, n1, (.c v20))] c r s fun v21 s => h_op4_callV (.c v0) [(.c v21)] c r s fun v22 s => K [] s)
 (.seq (.seq (.reg [q45, q46, q47] fun c r s K => fad n5 (r q1) fun v0 => ld s v0 fun v1 => lnS v1 fun v2 => K [v1, v2, I0] s)
 (.block n0 (.loop (.seq (.reg [q48] fun c r s K => binK .lss (r q47) (r q46) fun v0 => K [v0] s)
 (.seq (.cond (.t q48) .skip
 (.exit n0))
 (.seq (.block n1 (.seq (.reg [q7] fun c r s K => ixs n2 (r q45) (r q47) fun v0 => lN s n2 v0 fun v1 => alc s [zb, zn] fun v2 s => sto s n2 v2 v1 fun s => K [v2] s)
 (.seq (.reg [] fun c r s K => ld s (r q4) fun v0 => fad n0 (r q7) fun v1 => ld s v1 fun v2 => cnv .i64 v2 fun v3 => fad n1 (r q7) fun v4 => ld s v4 fun v5 => lnS v5 fun v6 => h_op3_buildS n2 n1 [zi, zi] [(n0, n1, (.c v3)), (n1, n1, (.c v6))] c r s fun v7 s => h_op4_callV (.c v0) [(.c v7)] c r s fun v8 s => K [] s)
 (.seq (.reg [q61, q62, q63] fun c r s K => fad n1 (r q7) fun v0 => ld s v0 fun v1 => lnS v1 fun v2 => K [v1, v2, I0] s)
 (.block n2 (.loop (.seq (.reg [q64] fun c r s K => binK .lss (r q63) (r q62) fun v0 => K [v0] s)
 (.seq (.cond (.t q64) .skip
 (.exit n2))
 (.seq (.block n3 (.seq (.reg [q9] fun c r s K => ixs n2 (r q61) (r q63) fun v0 => lN s n2 v0 fun v1 => alc s [zu, zn] fun v2 s => sto s n2 v2 v1 fun s => K [v2] s)
 (.seq (.reg [] fun c r s K => ld s (r q3) fun v0 => fad n0 (r q9) fun v1 => ld s v1 fun v2 => h_op3_buildS n1 n1 [zu] [(n0, n1, (.c v2))] c r s fun v3 s => xA n1 n8 v0 v3 c r s fun v4 s => sto s n1 (r q3) v4 fun s => K [] s)
 (.seq (.reg [] fun c r s K => ld s (r q4) fun v0 => fad n1 (r q9) fun v1 => ld s v1 fun v2 => lnS v2 fun v3 => h_op3_buildS n1 n1 [zi] [(n0, n1, (.c v3))] c r s fun v4 s => h_op4_callV (.c v0) [(.c v4)] c r s fun v5 s => K [] s)
 (.reg [] fun c r s K => fad n1 (r q9) fun v0 => ld s v0 fun v1 => h_op4_callV (.c (r q5)) [(.c v1)] c r s fun v2 s => K [] s)))))
 (.reg [q63] fun c r s K => binK .add (r q63) I1 fun v0 => K [v0] s))))))))))
 (.reg [q47] fun c r s K => binK .add (r q47) I1 fun v0 => K [v0] s)))))))
 (.seq (.seq (.reg [q85, q86, q87] fun c r s K => fad n6 (r q1) fun v0 => ld s v0 fun v1 => lnS v1 fun v2 => K [v1, v2, I0] s)
 (.block n4 (.loop (.seq (.reg [q88] fun c r s K => binK .lss (r q87) (r q86) fun v0 => K [v0] s)
 (.seq (.cond (.t q88) .skip
 (.exit n4))
 (.seq (.block n5 (.seq (.reg [q11] fun c r s K => ixs n2 (r q85) (r q87) fun v0 => lN s n2 v0 fun v1 => alc s [zn, zn] fun v2 s => sto s n2 v2 v1 fun s => K [v2] s)
 (.seq (.drw [] fun c r s K => (fun z m => dL z m n1 n0 s (r q4) fun v0 m s => fad n0 (r q11) fun v1 => dL z m n4 n2 s v1 fun v2 m s => lnS v2 fun v3 => fad n0 (r q11) fun v4 => dL z m n32 n16 s v4 fun v5 m s => ixs n1 v5 I0 fun v6 => dL z m n128 n112 s v6 fun v7 m s => lnS v7 fun v8 => dw1 m (nat_lit 512) (fun q => h_op3_buildS n2 n1 [zi, zi] [(n0, n1, (.c v3)), (n1, n1, (.c v8))] c r s q) fun v9 m s => dw3 m (nat_lit 1024) (nat_lit 1023) s (fun s q => h_op4_callV (.c v0) [(.c v9)] c r s q) fun v10 m s => K [] s) s.next mk0)
 (.seq (.reg [q107, q108, q109] fun c r s K => fad n0 (r q11) fun v0 => ld s v0 fun v1 => fad n1 (r q11) fun v2 => ld s v2 fun v3 => h_op3_buildS n2 n1 [zn, zn] [(n0, n1, (.c v1)), (n1, n1, (.c v3))] c r s fun v4 s => c n65 [v4] s fun v5 s => lnS v5 fun v6 => K [v5, v6, I0] s)
 (.block n6 (.loop (.seq (.reg [q110] fun c r s K => binK .lss (r q109) (r q108) fun v0 => K [v0] s)
 (.seq (.cond (.t q110) .skip
 (.exit n6))
 (.seq (.block n7 (.seq (.reg [q13] fun c r s K => ixs n1 (r q107) (r q109) fun v0 => ld s v0 fun v1 => K [v1] s)
 (.reg [] fun c r s K => h_op4_callV (.c (r q5)) [(.c (r q13))] c r s fun v0 s => K [] s)))
 (.reg [q109] fun c r s K => binK .add (r q109) I1 fun v0 => K [v0] s))))))))))
 (.reg [q87] fun c r s K => binK .add (r q87) I1 fun v0 => K [v0] s)))))))
 (.seq (.seq (.reg [q119, q120, q121] fun c r s K => fad n7 (r q1) fun v0 => ld s v0 fun v1 => lnS v1 fun v2 => K [v1, v2, I0] s)
 (.block n8 (.loop (.seq (.reg [q122] fun c r s K => binK .lss (r q121) (r q120) fun v0 => K [v0] s)
 (.seq (.cond (.t q122) .skip
 (.exit n8))
 (.seq (.block n9 (.seq (.reg [q15] fun c r s K => ixs n4 (r q119) (r q121) fun v0 => lN s n4 v0 fun v1 => alc s [zn, zn, zb, zi] fun v2 s => sto s n4 v2 v1 fun s => K [v2] s)
 (.seq (.reg [] fun c r s K => ld s (r q4) fun v0 => fad n0 (r q15) fun v1 => ld s v1 fun v2 => lnS v2 fun v3 => h_op3_buildS n1 n1 [zi] [(n0, n1, (.c v3))] c r s fun v4 s => h_op4_callV (.c v0) [(.c v4)] c r s fun v5 s => K [] s)
 (.seq (.reg [] fun c r s K => fad n0 (r q15) fun v0 => ld s v0 fun v1 => h_op4_callV (.c (r q5)) [(.c v1)] c r s fun v2 s => K [] s)
 (.seq (.reg [] fun c r s K => fad n1 (r q15) fun v0 => ld s v0 fun v1 => h_op4_callV (.c (r q5)) [(.c v1)] c r s fun v2 s => K [] s)
 (.reg [] fun c r s K => fad n2 (r q15) fun v0 => lN s n2 v0 fun v1 => h_op3_buildS n1 n2 [zb, zi] [(n0, n2, (.c v1))] c r s fun v2 s => h_op4_callV (.c (r q5)) [(.c v2)] c r s fun v3 s => K [] s))))))
 (.reg [q121] fun c r s K => binK .add (r q121) I1 fun v0 => K [v0] s)))))))
 (.seq (.reg [q2] fun c r s K => ld s (r q3) fun v0 => K [v0] s)
 .ret)))))))))), [(.tmp q2)], [q0], [q16, q17, q19, q20, q21, q22, q23, q24, q25, q26, q27, q28, q29, q30, q31, q32, q33, q34, q35, q36, q37, q38, q39, q40, q41, q42, q43, q44, q49, q50, q51, q52, q53, q54, q55, q56, q57, q58, q59, q60, q65, q66, q67, q68, q69, q70, q71, q72, q73, q74, q75, q76, q77, q78, q79, q80, q81, q82, q83, q84, q89, q90, q91, q92, q93, q94, q95, q96, q97, q98, q99, q100, q101, q102, q103, q104, q105, q106, q111, q112, q113, q114, q115, q116, q117, q118, q123, q124, q125, q126, q127, q128, q129, q130, q131, q132, q133, q134, q135, q136, q137, q138, q139, q140, q141, q142, q143, q144, q145]⟩
/- attestor/system.Words$2 -/
noncomputable def cf64 : HF := ⟨
(.seq (.reg [q5, q6, q7] fun c r s K => lnS (r q0) fun v0 => K [(r q0), v0, I0] s)
 (.block n0 (.loop (.seq (.reg [q8] fun c r s K => binK .lss (r q7) (r q6) fun v0 => K [v0] s)
 (.seq (.cond (.t q8) .skip
 (.exit n0))
 (.seq (.block n1 (.seq (.reg [q4] fun c r s K => ixs n2 (r q5) (r q7) fun v0 => lN s n2 v0 fun v1 => alc s [zb, zi] fun v2 s => sto s n2 v2 v1 fun s => K [v2] s)
 (.reg [] fun c r s K => ld s (r q1) fun v0 => fad n0 (r q4) fun v1 => ld s v1 fun v2 => cnv .i64 v2 fun v3 => fad n1 (r q4) fun v4 => ld s v4 fun v5 => h_op3_buildS n2 n1 [zi, zi] [(n0, n1, (.c v3)), (n1, n1, (.c v5))] c r s fun v6 s => h_op4_callV (.c v0) [(.c v6)] c r s fun v7 s => K [] s)))
 (.reg [q7] fun c r s K => binK .add (r q7) I1 fun v0 => K [v0] s))))))), [], [q0, q1], [q9, q10, q11, q12, q13, q14, q15, q16, q17, q18, q19]⟩
/- attestor/system.Words$1 -/
noncomputable def cf63 : HF := ⟨
(.seq (.reg [q5, q6, q7] fun c r s K => lnS (r q0) fun v0 => K [(r q0), v0, I0] s)
 (.block n0 (.loop (.seq (.reg [q8] fun c r s K => binK .lss (r q7) (r q6) fun v0 => K [v0] s)
 (.seq (.cond (.t q8) .skip
 (.exit n0))
 (.seq (.block n1 (.seq (.reg [q4] fun c r s K => ixs n1 (r q5) (r q7) fun v0 => ld s v0 fun v1 => K [v1] s)
 (.reg [] fun c r s K => ld s (r q1) fun v0 => cnv .u64 (r q4) fun v1 => h_op3_buildS n1 n1 [zu] [(n0, n1, (.c v1))] c r s fun v2 s => xA n1 n8 v0 v2 c r s fun v3 s => sto s n1 (r q1) v3 fun s => K [] s)))
 (.reg [q7] fun c r s K => binK .add (r q7) I1 fun v0 => K [v0] s))))))), [], [q0, q1], [q9, q10, q11, q12, q13, q14, q15, q16]⟩
/- attestor/channel.New -/
noncomputable def cf25 : HF := ⟨
(.seq (.reg [q2] fun c r s K => alc s [zi, zu, zu, zu, zu] fun v0 s => K [v0] s)
 (.seq (.seq (.reg [q5] fun c r s K => c n57 [(r q0)] s fun v0 s => nott v0 fun v1 => K [v1] s)
 (.cond (.t q5) (.reg [q0] fun c r s K => K [I0] s)
 .skip))
 (.seq (.reg [] fun c r s K => h_op3_build [zi, zu, zu, zu, zu] [(n0, n1, (.c (r q0)))] c r s fun v0 s => sto s n5 (r q2) v0 fun s => K [] s)
 .ret))), [(.cellN n5 q2)], [q0], [q3, q4, q6, q7]⟩
/- slices.Max[[]uint64,uint64] -/
noncomputable def cf23 : HF := ⟨
(.seq (.reg [q2] fun c r s K => K [U0] s)
 (.seq (.seq (.reg [q7] fun c r s K => lnS (r q0) fun v0 => binK .lss v0 I1 fun v1 => K [v1] s)
 (.cond (.t q7) (.reg [] fun c r s K => h_op4_iface n9 (.c (.sc (.lit (.string ⟨#[115, 108, 105, 99, 101, 115, 46, 77, 97, 120, 58, 32, 101, 109, 112, 116, 121, 32, 108, 105, 115, 116]⟩)))) c r s fun v0 s => h_op4_bad n102 c r s fun _ s => K [] s)
 .skip))
 (.seq (.reg [q3] fun c r s K => ixs n1 (r q0) I0 fun v0 => ld s v0 fun v1 => K [v1] s)
 (.seq (.seq (.reg [q4] fun c r s K => K [I1] s)
 (.block n0 (.loop (.seq (.seq (.reg [q15] fun c r s K => lnS (r q0) fun v0 => binK .lss (r q4) v0 fun v1 => K [v1] s)
 (.cond (.t q15) .skip
 (.exit n0)))
 (.seq (.block n1 (.reg [q3] fun c r s K => ixs n1 (r q0) (r q4) fun v0 => ld s v0 fun v1 => h_op4_minmax true [(.c (r q3)), (.c v1)] c r s fun v2 s => K [v2] s))
 (.reg [q4] fun c r s K => binK .add (r q4) I1 fun v0 => K [v0] s))))))
 (.seq (.reg [q2] fun c r s K => K [(r q3)] s)
 .ret))))), [(.tmp q2)], [q0], [q5, q6, q8, q9, q10, q11, q12, q13, q14, q18, q19, q20, q21, q22, q23, q16, q17, q24]⟩
/- attestor/attestorlaw19.counter -/
noncomputable def cf5 : HF := ⟨
(.seq (.reg [q0] fun c r s K => alc s [zi, zi, zi, zi, zi, zi, zi, zi, zn, zn, zn, zn, zi, zn] fun v0 s => K [v0] s)
 (.seq (.reg [q1, q2] fun c r s K => h_op3_build [zb, zi] [(n0, n1, (.c B1))] c r s fun v0 s => h_op3_build [zb, zi] [(n0, n1, (.c B2))] c r s fun v1 s => alc s [zb, zi] fun v2 s => alc s [zb, zi] fun v3 s => sto s n2 v2 v0 fun s => sto s n2 v3 v1 fun s => K [v2, v3] s)
 (.seq (.reg [q3] fun c r s K => lN s n2 (r q2) fun v0 => h_op3_buildS n1 n2 [zb, zi] [(n0, n2, (.c v0))] c r s fun v1 s => h_op3_build [zu, zn] [(n0, n1, (.c U1)), (n1, n1, (.c v1))] c r s fun v2 s => lN s n2 (r q1) fun v3 => h_op3_buildS n1 n2 [zb, zi] [(n0, n2, (.c v3))] c r s fun v4 s => h_op3_build [zu, zn] [(n0, n1, (.c (u6 n96))), (n1, n1, (.c v4))] c r s fun v5 s => h_op3_build [zu, zn] [(n0, n1, (.c (u6 n96)))] c r s fun v6 s => h_op3_buildS n3 n2 [zu, zn, zu, zn, zu, zn] [(n0, n2, (.c v2)), (n2, n2, (.c v5)), (n4, n2, (.c v6))] c r s fun v7 s => h_op3_build [zb, zn] [(n0, n1, (.c B2)), (n1, n1, (.c v7))] c r s fun v8 s => h_op3_buildS n1 n2 [zb, zn] [(n0, n2, (.c v8))] c r s fun v9 s => h_op3_build [zi, zi, zi, zi, zn, zn, zn, zn] [(n1, n1, (.c I2)), (n2, n1, (.c I1)), (n5, n1, (.c v9))] c r s fun v10 s => alc s [zi, zi, zi, zi, zn, zn, zn, zn] fun v11 s => sto s n8 v11 v10 fun s => K [v11] s)
 (.seq (.reg [] fun c r s K => h_op3_build [zi, zi, zi, zi] [(n0, n1, (.c I1)), (n1, n1, (.c I1)), (n2, n1, (.c I2))] c r s fun v0 s => lN s n8 (r q3) fun v1 => h_op3_build [zi, zi, zi, zi, zi, zi, zi, zi, zn, zn, zn, zn, zi, zn] [(n0, n4, (.c v0)), (n4, n8, (.c v1))] c r s fun v2 s => sto s n14 (r q0) v2 fun s => K [] s)
 .ret)))), [(.cellN n14 q0)], [], [q4, q5, q6, q7, q8, q9, q10, q11, q12, q13, q14, q15, q16, q17, q18, q19]⟩
end Go.Proofs.YtlgedjkkodhdnabGreatDoor.Ev
