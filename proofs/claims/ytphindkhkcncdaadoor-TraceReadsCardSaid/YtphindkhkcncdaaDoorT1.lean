/- Compiled functions of the translated program, and that each is what the compiler makes of it; no conditions. -/
import Derived.Test.YtphindkhkcncdaaDoorEvC
import Derived.KernelRfl
namespace Go.Proofs.YtphindkhkcncdaaDoor.Ev
set_option maxRecDepth 100000
set_option linter.unusedVariables false
/- math/bits.Len32 -/
noncomputable def cf79 : HF := ⟨
(.seq (.reg [q2] fun c r s K => K [I0] s)
 (.seq (.seq (.reg [q4] fun c r s K => binK .geq (r q0) (.sc (.int .u32 (.ofNat (nat_lit 65536)))) fun v0 => K [v0] s)
 (.cond (.t q4) (.seq (.reg [q0] fun c r s K => xS false (r q0) U16 c r s fun v0 s => K [v0] s)
 (.reg [q2] fun c r s K => K [I16] s))
 .skip))
 (.seq (.seq (.reg [q8] fun c r s K => binK .geq (r q0) (.sc (.int .u32 (.ofNat (nat_lit 256)))) fun v0 => K [v0] s)
 (.cond (.t q8) (.seq (.reg [q0] fun c r s K => xS false (r q0) U8 c r s fun v0 s => K [v0] s)
 (.reg [q2] fun c r s K => binK .add (r q2) I8 fun v0 => K [v0] s))
 .skip))
 (.seq (.reg [q2] fun c r s K => cnv .u8 (r q0) fun v0 => h_op4_byteAt (.c (.sc (.lit (.string ⟨#[0, 1, 2, 2, 3, 3, 3, 3, 4, 4, 4, 4, 4, 4, 4, 4, 5, 5, 5, 5, 5, 5, 5, 5, 5, 5, 5, 5, 5, 5, 5, 5, 6, 6, 6, 6, 6, 6, 6, 6, 6, 6, 6, 6, 6, 6, 6, 6, 6, 6, 6, 6, 6, 6, 6, 6, 6, 6, 6, 6, 6, 6, 6, 6, 7, 7, 7, 7, 7, 7, 7, 7, 7, 7, 7, 7, 7, 7, 7, 7, 7, 7, 7, 7, 7, 7, 7, 7, 7, 7, 7, 7, 7, 7, 7, 7, 7, 7, 7, 7, 7, 7, 7, 7, 7, 7, 7, 7, 7, 7, 7, 7, 7, 7, 7, 7, 7, 7, 7, 7, 7, 7, 7, 7, 7, 7, 7, 7, 8, 8, 8, 8, 8, 8, 8, 8, 8, 8, 8, 8, 8, 8, 8, 8, 8, 8, 8, 8, 8, 8, 8, 8, 8, 8, 8, 8, 8, 8, 8, 8, 8, 8, 8, 8, 8, 8, 8, 8, 8, 8, 8, 8, 8, 8, 8, 8, 8, 8, 8, 8, 8, 8, 8, 8, 8, 8, 8, 8, 8, 8, 8, 8, 8, 8, 8, 8, 8, 8, 8, 8, 8, 8, 8, 8, 8, 8, 8, 8, 8, 8, 8, 8, 8, 8, 8, 8, 8, 8, 8, 8, 8, 8, 8, 8, 8, 8, 8, 8, 8, 8, 8, 8, 8, 8, 8, 8, 8, 8, 8, 8, 8, 8, 8, 8, 8, 8, 8, 8, 8, 8, 8, 8, 8, 8, 8, 8]⟩)))) (.c v0) c r s fun v1 s => cnv .i64 v1 fun v2 => binK .add (r q2) v2 fun v3 => K [v3] s)
 .ret)))), [(.tmp q2)], [q0], [q3, q5, q6, q7, q9, q10, q11, q12, q13, q14, q15, q16, q17, q18]⟩
/- attestor/trace.sorted$1 -/
noncomputable def cf36 : HF := ⟨
(.seq (.reg [q5] fun c r s K => K [I0] s)
 (.seq (.drw [q5] fun c r s K => (fun z m => dL z m n1 n0 s (r q2) fun v0 m s => ixs n50 v0 (r q0) fun v1 => ixA n50 n1 v1 I32 fun v2 => dL z m n16 n15 s v2 fun v3 m s => dL z m n32 n0 s (r q2) fun v4 m s => ixs n50 v4 (r q1) fun v5 => ixA n50 n1 v5 I32 fun v6 => dL z m (nat_lit 512) (nat_lit 480) s v6 fun v7 m s => dw3 m (nat_lit 1024) (nat_lit 1023) s (fun s q => c n38 [v3, v7] s q) fun v8 m s => dw3 m (nat_lit 8192) (nat_lit 8191) s (fun s q => c n39 [(r q0), (r q1)] s q) fun v9 m s => dw1 m (nat_lit 16384) (fun q => h_op3_buildS n2 n1 [zi, zi] [(n0, n1, (.c v8)), (n1, n1, (.c v9))] c r s q) fun v10 m s => dw3 m (nat_lit 32768) (nat_lit 32767) s (fun s q => c n37 [v10] s q) fun v11 m s => K [v11] s) s.next mk0)
 .ret)), [(.tmp q5)], [q0, q1, q2], [q6, q7, q8, q9, q10, q11, q12, q13, q14, q15, q16, q17, q18, q19, q20, q21]⟩
/- cmp.Or[int] -/
noncomputable def cf37 : HF := ⟨
(.seq (.reg [q2] fun c r s K => K [I0] s)
 (.seq (.reg [q3] fun c r s K => K [I0] s)
 (.seq (.seq (.reg [q6, q7, q8] fun c r s K => lnS (r q0) fun v0 => K [(r q0), v0, I0] s)
 (.block n0 (.loop (.seq (.reg [q9] fun c r s K => binK .lss (r q8) (r q7) fun v0 => K [v0] s)
 (.seq (.cond (.t q9) .skip
 (.exit n0))
 (.seq (.block n1 (.seq (.reg [q5] fun c r s K => ixs n1 (r q6) (r q8) fun v0 => ld s v0 fun v1 => K [v1] s)
 (.seq (.reg [q14] fun c r s K => binK .neq (r q5) (r q3) fun v0 => K [v0] s)
 (.cond (.t q14) (.seq (.reg [q2] fun c r s K => K [(r q5)] s)
 .ret)
 .skip))))
 (.reg [q8] fun c r s K => binK .add (r q8) I1 fun v0 => K [v0] s)))))))
 (.seq (.reg [q2] fun c r s K => K [(r q3)] s)
 .ret)))), [(.tmp q2)], [q0], [q10, q11, q12, q13, q15, q16, q17]⟩
/- cmp.Compare[int] -/
noncomputable def cf39 : HF := ⟨
(.seq (.reg [q4] fun c r s K => K [I0] s)
 (.seq (.reg [q5] fun c r s K => c n56 [(r q0)] s fun v0 s => K [v0] s)
 (.seq (.reg [q6] fun c r s K => c n56 [(r q1)] s fun v0 s => K [v0] s)
 (.seq (.seq (.reg [q11] fun c r s K => K [(r q5)] s)
 (.cond (.t q11) (.seq (.seq (.reg [q12] fun c r s K => K [(r q6)] s)
 (.cond (.t q12) (.seq (.reg [q4] fun c r s K => K [I0] s)
 .ret)
 .skip))
 (.seq (.reg [q4] fun c r s K => (fun v0 => K [v0] s) (.sc (.int .i64 (.negSucc n0))))
 .ret))
 .skip))
 (.seq (.seq (.reg [q13] fun c r s K => K [(r q6)] s)
 (.cond (.t q13) (.seq (.reg [q4] fun c r s K => K [I1] s)
 .ret)
 .skip))
 (.seq (.seq (.reg [q16] fun c r s K => binK .lss (r q0) (r q1) fun v0 => K [v0] s)
 (.cond (.t q16) (.seq (.reg [q4] fun c r s K => (fun v0 => K [v0] s) (.sc (.int .i64 (.negSucc n0))))
 .ret)
 .skip))
 (.seq (.seq (.reg [q19] fun c r s K => binK .gtr (r q0) (r q1) fun v0 => K [v0] s)
 (.cond (.t q19) (.seq (.reg [q4] fun c r s K => K [I1] s)
 .ret)
 .skip))
 (.seq (.reg [q4] fun c r s K => K [I0] s)
 .ret)))))))), [(.tmp q4)], [q0, q1], [q7, q8, q9, q10, q14, q15, q17, q18]⟩
/- cmp.isNaN[int] -/
noncomputable def cf56 : HF := ⟨
(.seq (.reg [q2] fun c r s K => K [ff] s)
 (.seq (.reg [q2] fun c r s K => binK .neq (r q0) (r q0) fun v0 => K [v0] s)
 .ret)), [(.tmp q2)], [q0], [q3, q4, q5]⟩
/- cmp.Compare[uint64] -/
noncomputable def cf38 : HF := ⟨
(.seq (.reg [q4] fun c r s K => K [I0] s)
 (.seq (.reg [q5] fun c r s K => c n55 [(r q0)] s fun v0 s => K [v0] s)
 (.seq (.reg [q6] fun c r s K => c n55 [(r q1)] s fun v0 s => K [v0] s)
 (.seq (.seq (.reg [q11] fun c r s K => K [(r q5)] s)
 (.cond (.t q11) (.seq (.seq (.reg [q12] fun c r s K => K [(r q6)] s)
 (.cond (.t q12) (.seq (.reg [q4] fun c r s K => K [I0] s)
 .ret)
 .skip))
 (.seq (.reg [q4] fun c r s K => (fun v0 => K [v0] s) (.sc (.int .i64 (.negSucc n0))))
 .ret))
 .skip))
 (.seq (.seq (.reg [q13] fun c r s K => K [(r q6)] s)
 (.cond (.t q13) (.seq (.reg [q4] fun c r s K => K [I1] s)
 .ret)
 .skip))
 (.seq (.seq (.reg [q16] fun c r s K => binK .lss (r q0) (r q1) fun v0 => K [v0] s)
 (.cond (.t q16) (.seq (.reg [q4] fun c r s K => (fun v0 => K [v0] s) (.sc (.int .i64 (.negSucc n0))))
 .ret)
 .skip))
 (.seq (.seq (.reg [q19] fun c r s K => binK .gtr (r q0) (r q1) fun v0 => K [v0] s)
 (.cond (.t q19) (.seq (.reg [q4] fun c r s K => K [I1] s)
 .ret)
 .skip))
 (.seq (.reg [q4] fun c r s K => K [I0] s)
 .ret)))))))), [(.tmp q4)], [q0, q1], [q7, q8, q9, q10, q14, q15, q17, q18]⟩
/- cmp.isNaN[uint64] -/
noncomputable def cf55 : HF := ⟨
(.seq (.reg [q2] fun c r s K => K [ff] s)
 (.seq (.reg [q2] fun c r s K => binK .neq (r q0) (r q0) fun v0 => K [v0] s)
 .ret)), [(.tmp q2)], [q0], [q3, q4, q5]⟩
/- attestor/trace.line -/
noncomputable def cf19 : HF := ⟨
(.seq (.reg [q3, q4] fun c r s K => bxx s (r q1) fun v0 s => alc s [zu, zu, zu, zu, zu, zu, zu, zu, zu, zu, zu, zu, zu, zu, zu, zu, zu, zu, zu, zu, zu, zu, zu, zu, zu, zu, zu, zu, zu, zu, zu, zu, zu, zu, zu, zu, zu, zu, zu, zu, zu, zu, zu, zu, zu, zu, zu, zu, zu, zu] fun v1 s => K [v0, v1] s)
 (.seq (.reg [q5] fun c r s K => alc s [zu, zu, zu, zu, zu, zu, zu, zu, zu, zu, zu, zu, zu, zu, zu, zu, zu, zu, zu, zu, zu, zu, zu, zu, zu, zu, zu, zu, zu, zu, zu, zu, zu, zu, zu, zu, zu, zu, zu, zu, zu, zu, zu, zu, zu, zu, zu, zu, zu, zu] fun v0 s => K [v0] s)
 (.seq (.reg [q6] fun c r s K => fad n0 (r q3) fun v0 => ld s v0 fun v1 => c n23 [(r q0), v1] s fun v2 s => alc s [zb, zb, zb, zb] fun v3 s => sto s n4 v3 v2 fun s => K [v3] s)
 (.seq (.reg [q7] fun c r s K => lN s n21 (r q3) fun v0 => c n32 [(r q0), v0] s fun v1 s => xE n0 v1 c r s fun v2 s => xE n1 v1 c r s fun v3 s => alc s [zi, zb, zb, zb, zb, zb, zb, zb, zb, zb, zb, zb, zb, zb, zb, zb, zb, zb, zb, zb, zb] fun v4 s => sto s n21 v4 v2 fun s => K [v4] s)
 (.seq (.drw [q9, q10] fun c r s K => (fun z m => fad n1 (r q6) fun v0 => dL z m n2 n1 s v0 fun v1 m s => fad n1 (r q3) fun v2 => ixA n4 n1 v2 v1 fun v3 => dL z m n16 n15 s v3 fun v4 m s => cnv .u64 v4 fun v5 => fad n2 (r q6) fun v6 => dL z m n128 n64 s v6 fun v7 m s => fad n1 (r q3) fun v8 => ixA n4 n1 v8 v7 fun v9 => dL z m (nat_lit 1024) (nat_lit 960) s v9 fun v10 m s => cnv .u64 v10 fun v11 => K [v5, v11] s) s.next mk0)
 (.seq (.drw [] fun c r s K => (fun z m => fad n0 (r q3) fun v0 => dL z m n2 n1 s v0 fun v1 m s => cnv .u64 v1 fun v2 => dN z m n8 n0 s n4 (r q6) fun v3 m s => dw3 m n16 n8 s (fun s q => c n24 [v3] s q) fun v4 m s => fad n3 (r q6) fun v5 => dL z m n64 n32 s v5 fun v6 m s => cnv .u64 v6 fun v7 => ixA n50 n1 (r q5) I0 fun v8 => dS z m (nat_lit 2048) (nat_lit 1055) s n1 v8 v2 fun _ m s => ixA n50 n1 (r q5) I21 fun v10 => dS z m (nat_lit 8192) (nat_lit 7199) s n1 v10 v4 fun _ m s => ixA n50 n1 (r q5) I22 fun v12 => dS z m (nat_lit 32768) (nat_lit 31999) s n1 v12 v7 fun _ m s => ixA n50 n1 (r q5) I23 fun v14 => dS z m (nat_lit 131072) (nat_lit 130559) s n1 v14 (r q9) fun _ m s => ixA n50 n1 (r q5) I24 fun v16 => dS z m (nat_lit 524288) (nat_lit 524287) s n1 v16 (r q10) fun _ m s => K [] s) s.next mk0)
 (.seq (.seq (.reg [q52, q53] fun c r s K => fad n1 (r q3) fun v0 => lN s n4 v0 fun v1 => K [v1, I0] s)
 (.block n0 (.loop (.seq (.reg [q54] fun c r s K => binK .lss (r q53) I4 fun v0 => K [v0] s)
 (.seq (.cond (.t q54) .skip
 (.exit n0))
 (.seq (.block n1 (.seq (.reg [q11, q12] fun c r s K => h_op2_idxV n4 n1 false (.c (r q52)) (.c (r q53)) c r s fun v0 s => K [(r q53), v0] s)
 (.reg [] fun c r s K => binK .add I1 (r q11) fun v0 => cnv .u64 (r q12) fun v1 => ixA n50 n1 (r q5) v0 fun v2 => sto s n1 v2 v1 fun s => K [] s)))
 (.reg [q53] fun c r s K => binK .add (r q53) I1 fun v0 => K [v0] s)))))))
 (.seq (.seq (.reg [q63] fun c r s K => K [I0] s)
 (.block n2 (.loop (.seq (.reg [q64] fun c r s K => binK .lss (r q63) I16 fun v0 => K [v0] s)
 (.seq (.cond (.t q64) .skip
 (.exit n2))
 (.seq (.block n3 (.seq (.reg [q13] fun c r s K => K [(r q63)] s)
 (.reg [] fun c r s K => binK .add I5 (r q13) fun v0 => ixA n50 n1 (r q5) I21 fun v1 => ld s v1 fun v2 => xS false v2 (r q13) c r s fun v3 s => binK .and v3 U1 fun v4 => ixA n50 n1 (r q5) v0 fun v5 => sto s n1 v5 v4 fun s => K [] s)))
 (.reg [q63] fun c r s K => binK .add (r q63) I1 fun v0 => K [v0] s)))))))
 (.seq (.reg [] fun c r s K => fad n1 (r q6) fun v0 => ld s v0 fun v1 => fad n1 (r q7) fun v2 => ixA n4 n1 v2 v1 fun v3 => ld s v3 fun v4 => cnv .u64 v4 fun v5 => c n33 [(r q5), I25, I26, v5] s fun v6 s => K [] s)
 (.seq (.seq (.reg [q83] fun c r s K => fad n0 (r q6) fun v0 => ld s v0 fun v1 => K [v1] s)
 (.block n4 (.seq (.reg [q84] fun c r s K => binK .eql (r q83) B3 fun v0 => K [v0] s)
 (.cond (.t q84) (.reg [] fun c r s K => binK .add (r q9) (r q10) fun v0 => xS false v0 U8 c r s fun v1 s => c n33 [(r q5), (.sc (.int .i64 (.negSucc n0))), I28, v1] s fun v2 s => K [] s)
 (.seq (.reg [q91] fun c r s K => binK .eql (r q83) B5 fun v0 => K [v0] s)
 (.cond (.t q91) (.reg [] fun c r s K => binK .mul (r q9) (r q10) fun v0 => xS false v0 U8 c r s fun v1 s => c n33 [(r q5), (.sc (.int .i64 (.negSucc n0))), I28, v1] s fun v2 s => K [] s)
 (.seq (.reg [q98] fun c r s K => binK .eql (r q83) B4 fun v0 => K [v0] s)
 (.cond (.t q98) (.reg [] fun c r s K => binK .sub (r q9) (r q10) fun v0 => xS false v0 (u6 n63) c r s fun v1 s => c n33 [(r q5), (.sc (.int .i64 (.negSucc n0))), I28, v1] s fun v2 s => K [] s)
 (.seq (.reg [q105] fun c r s K => binK .eql (r q83) B8 fun v0 => K [v0] s)
 (.cond (.t q105) (.seq (.reg [] fun c r s K => c n34 [I3, (r q9)] s fun v0 s => ixA n50 n1 (r q5) I30 fun v1 => sto s n1 v1 v0 fun s => K [] s)
 (.reg [] fun c r s K => h_op4_minmax false [(.c (r q9)), (.c U1)] c r s fun v0 s => ixA n50 n1 (r q5) I31 fun v1 => sto s n1 v1 v0 fun s => K [] s))
 .skip))))))))))
 (.seq (.reg [] fun c r s K => c n33 [(r q5), (.sc (.int .i64 (.negSucc n0))), I32, (r q10)] s fun v0 s => K [] s)
 (.seq (.reg [] fun c r s K => binK .rem (r q10) U16 fun v0 => fad n5 (r q7) fun v1 => ixA n16 n1 v1 v0 fun v2 => ld s v2 fun v3 => cnv .u64 v3 fun v4 => ixA n50 n1 (r q5) I34 fun v5 => sto s n1 v5 v4 fun s => K [] s)
 (.seq (.reg [] fun c r s K => lN s n50 (r q5) fun v0 => sto s n50 (r q4) v0 fun s => K [] s)
 .ret))))))))))))), [(.cellN n50 q4)], [q0, q1], [q14, q15, q16, q17, q19, q20, q21, q18, q22, q23, q8, q24, q25, q26, q27, q28, q29, q30, q31, q32, q33, q34, q35, q36, q37, q38, q39, q40, q41, q42, q43, q44, q45, q46, q47, q48, q49, q50, q51, q55, q56, q57, q58, q59, q60, q61, q62, q65, q66, q67, q68, q69, q70, q71, q72, q73, q74, q75, q76, q77, q78, q79, q80, q81, q82, q85, q86, q87, q88, q89, q90, q92, q93, q94, q95, q96, q97, q99, q100, q101, q102, q103, q104, q106, q107, q108, q109, q110, q111, q112, q113, q114, q115, q116, q117, q118, q119, q120, q121, q122]⟩
/- attestor/field.Inv -/
noncomputable def cf34 : HF := ⟨
(.seq (.reg [q4] fun c r s K => K [U0] s)
 (.seq (.reg [q5] fun c r s K => c n52 [(r q0)] s fun v0 s => K [v0] s)
 (.seq (.seq (.reg [q20] fun c r s K => binK .eql (r q5) U0 fun v0 => mf v0 (r q1) s fun v1 s => mf v0 (r q5) s fun v2 s => jf v0 (binK .rem v1 v2) s fun v3 s => jf v0 (binK .eql v3 U0) s fun v4 s => pck v0 tt v4 fun v5 => K [v5] s)
 (.cond (.t q20) (.seq (.reg [q4] fun c r s K => K [U0] s)
 .ret)
 .skip))
 (.seq (.drw [q6, q7] fun c r s K => (fun z m => cnv .i64 (r q5) fun v0 => binK .rem (r q1) (r q5) fun v1 => cnv .i64 v1 fun v2 => K [v0, v2] s) s.next mk0)
 (.seq (.reg [q8, q9] fun c r s K => K [I0, I1] s)
 (.seq (.block n0 (.loop (.seq (.seq (.reg [q28] fun c r s K => binK .neq (r q7) I0 fun v0 => K [v0] s)
 (.cond (.t q28) .skip
 (.exit n0)))
 (.block n1 (.seq (.reg [q10] fun c r s K => binK .quo (r q6) (r q7) fun v0 => K [v0] s)
 (.seq (.reg [q6, q7] fun c r s K => binK .mul (r q10) (r q7) fun v0 => binK .sub (r q6) v0 fun v1 => K [(r q7), v1] s)
 (.reg [q8, q9] fun c r s K => binK .mul (r q10) (r q9) fun v0 => binK .sub (r q8) v0 fun v1 => K [(r q9), v1] s)))))))
 (.seq (.seq (.reg [q45] fun c r s K => binK .lss (r q8) I0 fun v0 => K [v0] s)
 (.cond (.t q45) (.reg [q8] fun c r s K => cnv .i64 (r q5) fun v0 => binK .add (r q8) v0 fun v1 => K [v1] s)
 .skip))
 (.seq (.reg [q4] fun c r s K => cnv .u64 (r q8) fun v0 => K [v0] s)
 .ret)))))))), [(.tmp q4)], [q0, q1], [q11, q12, q13, q14, q15, q16, q17, q18, q19, q21, q22, q23, q24, q25, q26, q27, q29, q30, q31, q32, q33, q34, q35, q36, q37, q38, q39, q40, q41, q42, q43, q44, q46, q47, q48, q49, q50, q51]⟩
/- (*attestor/trace.row).put -/
noncomputable def cf33 : HF := ⟨
(.seq (.seq (.reg [q9] fun c r s K => binK .geq (r q1) I0 fun v0 => K [v0] s)
 (.cond (.t q9) (.reg [] fun c r s K => xC (r q0) c r s fun v0 s => ixA n50 n1 v0 (r q1) fun v1 => sto s n1 v1 (r q3) fun s => K [] s)
 .skip))
 (.drw [] fun c r s K => (fun z m => binK .add (r q2) I1 fun v0 => binK .rem (r q3) U16 fun v1 => binK .quo (r q3) U16 fun v2 => xC (r q0) c r s fun v3 s => ixA n50 n1 v3 (r q2) fun v4 => dS z m (nat_lit 2048) (nat_lit 1635) s n1 v4 v1 fun _ m s => xC (r q0) c r s fun v6 s => ixA n50 n1 v6 v0 fun v7 => dS z m (nat_lit 16384) (nat_lit 16383) s n1 v7 v2 fun _ m s => K [] s) s.next mk0)), [], [q0, q1, q2, q3], [q8, q10, q11, q12, q13, q14, q15, q16, q17, q18, q19, q20, q21, q22, q23, q24, q25, q26, q27]⟩
/- attestor/machine.Step -/
noncomputable def cf32 : HF := ⟨
(.seq (.reg [q3, q4, q5] fun c r s K => bxx s (r q1) fun v0 s => alc s [zi, zb, zb, zb, zb, zb, zb, zb, zb, zb, zb, zb, zb, zb, zb, zb, zb, zb, zb, zb, zb] fun v1 s => K [v0, v1, I0] s)
 (.seq (.seq (.reg [q9] fun c r s K => lN s n21 (r q3) fun v0 => c n31 [(r q0), v0] s fun v1 s => nott v1 fun v2 => K [v2] s)
 (.cond (.t q9) (.seq (.reg [q5] fun c r s K => h_op3_build [zi, zb, zb, zb, zb, zb, zb, zb, zb, zb, zb, zb, zb, zb, zb, zb, zb, zb, zb, zb, zb] [] c r s fun v0 s => sto s n21 (r q4) v0 fun s => K [I1] s)
 .ret)
 .skip))
 (.seq (.drw [q5] fun c r s K => (fun z m => fad n0 (r q3) fun v0 => dL z m n4 n2 s v0 fun v1 m s => dw3 m n8 n7 s (fun s q => c n23 [(r q0), v1] s q) fun v2 m s => dN z m n16 n0 s n21 (r q3) fun v3 m s => dw3 m n32 n31 s (fun s q => c n30 [v2, v3] s q) fun v4 m s => dS z m n64 n63 s n21 (r q4) v4 fun _ m s => K [I0] s) s.next mk0)
 .ret))), [(.cellN n21 q4), (.tmp q5)], [q0, q1], [q6, q7, q8, q10, q11, q12, q13, q14, q15, q16]⟩
/- attestor/machine.step -/
noncomputable def cf30 : HF := ⟨
(.seq (.reg [q2, q3, q4] fun c r s K => bxx s (r q0) fun v0 s => bxx s (r q1) fun v1 s => alc s [zi, zb, zb, zb, zb, zb, zb, zb, zb, zb, zb, zb, zb, zb, zb, zb, zb, zb, zb, zb, zb] fun v2 s => K [v0, v1, v2] s)
 (.seq (.reg [q5] fun c r s K => fad n1 (r q2) fun v0 => ld s v0 fun v1 => fad n1 (r q3) fun v2 => ixA n4 n1 v2 v1 fun v3 => K [v3] s)
 (.seq (.reg [q6] fun c r s K => fad n2 (r q2) fun v0 => ld s v0 fun v1 => fad n1 (r q3) fun v2 => ixA n4 n1 v2 v1 fun v3 => ld s v3 fun v4 => binK .and v4 B15 fun v5 => fad n5 (r q3) fun v6 => ixA n16 n1 v6 v5 fun v7 => K [v7] s)
 (.seq (.seq (.reg [q7, q8] fun c r s K => fad n0 (r q2) fun v0 => ld s v0 fun v1 => c n51 [v1] s fun v2 s => xE n0 v2 c r s fun v3 s => xE n1 v2 c r s fun v4 s => K [v3, v4] s)
 (.seq (.reg [q27] fun c r s K => K [(r q8)] s)
 (.cond (.t q27) (.drw [] fun c r s K => (fun z m => xC (r q5) c r s fun v0 s => dL z m n16 n12 s v0 fun v1 m s => fad n2 (r q2) fun v2 => dL z m n64 n32 s v2 fun v3 m s => fad n1 (r q3) fun v4 => ixA n4 n1 v4 v3 fun v5 => dL z m (nat_lit 512) (nat_lit 480) s v5 fun v6 m s => dw3 m (nat_lit 1024) (nat_lit 1022) s (fun s q => h_op4_callV (.c (r q7)) [(.c v1), (.c v6)] c r s q) fun v7 m s => xC (r q5) c r s fun v8 s => dS z m (nat_lit 4096) (nat_lit 4095) s n1 v8 v7 fun _ m s => K [] s) s.next mk0)
 .skip)))
 (.seq (.seq (.reg [q41] fun c r s K => fad n0 (r q2) fun v0 => ld s v0 fun v1 => K [v1] s)
 (.block n0 (.seq (.reg [q42] fun c r s K => binK .eql (r q41) B0 fun v0 => K [v0] s)
 (.cond (.t q42) (.seq (.reg [] fun c r s K => lN s n21 (r q3) fun v0 => sto s n21 (r q4) v0 fun s => K [] s)
 .ret)
 (.seq (.reg [q45] fun c r s K => binK .eql (r q41) B1 fun v0 => K [v0] s)
 (.cond (.t q45) (.reg [] fun c r s K => fad n3 (r q2) fun v0 => ld s v0 fun v1 => xC (r q5) c r s fun v2 s => sto s n1 v2 v1 fun s => K [] s)
 (.seq (.reg [q51] fun c r s K => binK .eql (r q41) B6 fun v0 => K [v0] s)
 (.cond (.t q51) (.reg [] fun c r s K => xC (r q6) c r s fun v0 s => ld s v0 fun v1 => xC (r q5) c r s fun v2 s => sto s n1 v2 v1 fun s => K [] s)
 (.seq (.reg [q58] fun c r s K => binK .eql (r q41) B7 fun v0 => K [v0] s)
 (.cond (.t q58) (.reg [] fun c r s K => xC (r q5) c r s fun v0 s => ld s v0 fun v1 => xC (r q6) c r s fun v2 s => sto s n1 v2 v1 fun s => K [] s)
 (.seq (.reg [q65] fun c r s K => binK .eql (r q41) B8 fun v0 => K [v0] s)
 (.cond (.t q65) (.seq (.reg [q70] fun c r s K => xC (r q5) c r s fun v0 s => ld s v0 fun v1 => binK .neq v1 B0 fun v2 => K [v2] s)
 (.cond (.t q70) (.seq (.reg [] fun c r s K => fad n3 (r q2) fun v0 => ld s v0 fun v1 => cnv .i64 v1 fun v2 => fad n0 (r q3) fun v3 => sto s n1 v3 v2 fun s => K [] s)
 (.seq (.reg [] fun c r s K => lN s n21 (r q3) fun v0 => sto s n21 (r q4) v0 fun s => K [] s)
 .ret))
 .skip))
 .skip))))))))))))
 (.seq (.reg [] fun c r s K => fad n0 (r q3) fun v0 => ld s v0 fun v1 => binK .add v1 I1 fun v2 => fad n0 (r q3) fun v3 => sto s n1 v3 v2 fun s => K [] s)
 (.seq (.reg [] fun c r s K => lN s n21 (r q3) fun v0 => sto s n21 (r q4) v0 fun s => K [] s)
 .ret))))))), [(.cellN n21 q4)], [q0, q1], [q9, q10, q11, q12, q13, q14, q15, q16, q17, q18, q19, q20, q22, q23, q24, q21, q25, q26, q28, q29, q30, q31, q32, q33, q34, q35, q36, q37, q38, q39, q40, q43, q44, q46, q47, q48, q49, q50, q52, q53, q54, q55, q56, q57, q59, q60, q61, q62, q63, q64, q66, q67, q68, q69, q71, q72, q73, q74, q75, q76, q77, q78, q79, q80]⟩
/- attestor/machine.arithmetic -/
noncomputable def cf51 : HF := ⟨
(.seq (.reg [q2, q3] fun c r s K => K [(.sc (.lit .nilFunc)), ff] s)
 (.seq (.seq (.reg [q4] fun c r s K => K [(r q0)] s)
 (.block n0 (.seq (.reg [q5] fun c r s K => binK .eql (r q4) B2 fun v0 => K [v0] s)
 (.cond (.t q5) (.seq (.reg [q2, q3] fun c r s K => K [(.sc (.fn n66)), tt] s)
 .ret)
 (.seq (.reg [q7] fun c r s K => binK .eql (r q4) B3 fun v0 => K [v0] s)
 (.cond (.t q7) (.seq (.reg [q2, q3] fun c r s K => K [(.sc (.fn n67)), tt] s)
 .ret)
 (.seq (.reg [q9] fun c r s K => binK .eql (r q4) B4 fun v0 => K [v0] s)
 (.cond (.t q9) (.seq (.reg [q2, q3] fun c r s K => K [(.sc (.fn n68)), tt] s)
 .ret)
 (.seq (.reg [q11] fun c r s K => binK .eql (r q4) B5 fun v0 => K [v0] s)
 (.cond (.t q11) (.seq (.reg [q2, q3] fun c r s K => K [(.sc (.fn n69)), tt] s)
 .ret)
 .skip))))))))))
 (.seq (.reg [q2, q3] fun c r s K => K [(.sc (.lit .nilFunc)), ff] s)
 .ret))), [(.tmp q2), (.tmp q3)], [q0], [q6, q8, q10, q12]⟩
/- attestor/machine.arithmetic$4 -/
noncomputable def cf69 : HF := ⟨
(.seq (.reg [q4] fun c r s K => K [B0] s)
 (.seq (.reg [q4] fun c r s K => binK .mul (r q0) (r q1) fun v0 => K [v0] s)
 .ret)), [(.tmp q4)], [q0, q1], [q5, q6, q7]⟩
/- attestor/machine.arithmetic$3 -/
noncomputable def cf68 : HF := ⟨
(.seq (.reg [q4] fun c r s K => K [B0] s)
 (.seq (.reg [q4] fun c r s K => binK .sub (r q0) (r q1) fun v0 => K [v0] s)
 .ret)), [(.tmp q4)], [q0, q1], [q5, q6, q7]⟩
/- attestor/machine.arithmetic$2 -/
noncomputable def cf67 : HF := ⟨
(.seq (.reg [q4] fun c r s K => K [B0] s)
 (.seq (.reg [q4] fun c r s K => binK .add (r q0) (r q1) fun v0 => K [v0] s)
 .ret)), [(.tmp q4)], [q0, q1], [q5, q6, q7]⟩
/- attestor/machine.arithmetic$1 -/
noncomputable def cf66 : HF := ⟨
(.seq (.reg [q4] fun c r s K => K [B0] s)
 (.seq (.reg [q4] fun c r s K => K [(r q1)] s)
 .ret)), [(.tmp q4)], [q0, q1], [q5]⟩
/- attestor/machine.Valid -/
noncomputable def cf31 : HF := ⟨
(.seq (.reg [q3, q4] fun c r s K => bxx s (r q1) fun v0 s => K [v0, ff] s)
 (.seq (.reg [q4] fun c r s K => fad n0 (r q3) fun v0 => ld s v0 fun v1 => binK .geq v1 I0 fun v2 => jt v2 (fad n0 (r q3)) s fun v3 s => jt v2 (ld s v3) s fun v4 s => mt v2 (r q0) s fun v5 s => jt v2 (lnS v5) s fun v6 s => jt v2 (binK .leq v4 v6) s fun v7 s => pck v2 v7 ff fun v8 => mt v8 (r q0) s fun v9 s => jn true v8 (fun j => c n28 [v9] s j) s fun v10 s => jt v8 (binK .eql v10 I0) s fun v11 s => pck v8 v11 ff fun v12 => K [v12] s)
 .ret)), [(.tmp q4)], [q0, q1], [q5, q6, q7, q8, q9, q10, q11, q12, q13, q14, q15, q16, q17, q18, q19]⟩
/- attestor/machine.Halted -/
noncomputable def cf18 : HF := ⟨
(.seq (.reg [q3, q4] fun c r s K => bxx s (r q1) fun v0 s => K [v0, ff] s)
 (.seq (.reg [q4] fun c r s K => lN s n21 (r q3) fun v0 => c n31 [(r q0), v0] s fun v1 s => mt v1 (r q0) s fun v2 s => jt v1 (fad n0 (r q3)) s fun v3 s => jt v1 (ld s v3) s fun v4 s => jn true v1 (fun j => c n23 [v2, v4] s j) s fun v5 s => jn true v1 (fun j => h_op3_build [zb, zb, zb, zb] [] c r s j) s fun v6 s => jn true v1 (fun j => h_op4_eqv (.flat [n1, n1, n1, n1]) false (.c v5) (.c v6) c r s j) s fun v7 s => pck v1 v7 ff fun v8 => K [v8] s)
 .ret)), [(.tmp q4)], [q0, q1], [q5, q6, q7, q8, q9, q10, q11, q12, q13, q14, q15]⟩
/- attestor/machine.States -/
noncomputable def cf16 : HF := ⟨
(.seq (.reg [q4, q6, q7] fun c r s K => bxx s (r q1) fun v0 s => K [v0, (.sc zn), I0] s)
 (.seq (.seq (.reg [q8] fun c r s K => lN s n21 (r q4) fun v0 => c n29 [(r q0), v0, (r q2)] s fun v1 s => K [v1] s)
 (.seq (.reg [q16] fun c r s K => binK .neq (r q8) I0 fun v0 => K [v0] s)
 (.cond (.t q16) (.seq (.reg [q6, q7] fun c r s K => K [(.sc zn), (r q8)] s)
 .ret)
 .skip)))
 (.seq (.reg [q9] fun c r s K => xM n21 n32 [zi, zb, zb, zb, zb, zb, zb, zb, zb, zb, zb, zb, zb, zb, zb, zb, zb, zb, zb, zb, zb] (r q2) (r q2) c r s fun v0 s => K [v0] s)
 (.seq (.seq (.reg [q21, q22] fun c r s K => lnS (r q9) fun v0 => K [v0, I0] s)
 (.block n0 (.loop (.seq (.reg [q23] fun c r s K => binK .lss (r q22) (r q21) fun v0 => K [v0] s)
 (.seq (.cond (.t q23) .skip
 (.exit n0))
 (.seq (.block n1 (.seq (.reg [q10] fun c r s K => K [(r q22)] s)
 (.seq (.reg [] fun c r s K => lN s n21 (r q4) fun v0 => ixs n21 (r q9) (r q10) fun v1 => sto s n21 v1 v0 fun s => K [] s)
 (.drw [] fun c r s K => (fun z m => fad n0 (r q4) fun v0 => dL z m n4 n2 s v0 fun v1 m s => dw3 m n8 n7 s (fun s q => c n23 [(r q0), v1] s q) fun v2 m s => dN z m n16 n0 s n21 (r q4) fun v3 m s => dw3 m n32 n31 s (fun s q => c n30 [v2, v3] s q) fun v4 m s => dS z m n64 n63 s n21 (r q4) v4 fun _ m s => K [] s) s.next mk0))))
 (.reg [q22] fun c r s K => binK .add (r q22) I1 fun v0 => K [v0] s)))))))
 (.seq (.reg [q6, q7] fun c r s K => K [(r q9), I0] s)
 .ret))))), [(.tmp q6), (.tmp q7)], [q0, q1, q2], [q11, q12, q13, q14, q15, q17, q18, q19, q20, q24, q25, q26, q27, q28, q29, q30, q31, q32, q33, q34, q35, q36]⟩
/- attestor/machine.bound -/
noncomputable def cf29 : HF := ⟨
(.seq (.reg [q4, q6] fun c r s K => bxx s (r q1) fun v0 s => K [v0, I0] s)
 (.seq (.block n0 (.seq (.reg [q7] fun c r s K => lN s n21 (r q4) fun v0 => c n31 [(r q0), v0] s fun v1 s => nott v1 fun v2 => mf v2 (r q2) s fun v3 s => jf v2 (binK .lss v3 I0) s fun v4 s => pck v2 tt v4 fun v5 => K [v5] s)
 (.cond (.t q7) (.seq (.reg [q6] fun c r s K => K [I1] s)
 .ret)
 (.seq (.reg [q16] fun c r s K => binK .gtr (r q2) (i6 (nat_lit 65536)) fun v0 => K [v0] s)
 (.cond (.t q16) (.seq (.reg [q6] fun c r s K => K [I3] s)
 .ret)
 .skip)))))
 (.seq (.reg [q6] fun c r s K => K [I0] s)
 .ret))), [(.tmp q6)], [q0, q1, q2], [q8, q9, q10, q11, q12, q13, q14, q15, q17, q18]⟩
/- attestor/machine.Start -/
noncomputable def cf17 : HF := ⟨
(.seq (.reg [q1, q2] fun c r s K => bxx s (r q0) fun v0 s => alc s [zi, zb, zb, zb, zb, zb, zb, zb, zb, zb, zb, zb, zb, zb, zb, zb, zb, zb, zb, zb, zb] fun v1 s => K [v0, v1] s)
 (.seq (.reg [] fun c r s K => lN s n4 (r q1) fun v0 => h_op3_build [zi, zb, zb, zb, zb, zb, zb, zb, zb, zb, zb, zb, zb, zb, zb, zb, zb, zb, zb, zb, zb] [(n1, n4, (.c v0))] c r s fun v1 s => sto s n21 (r q2) v1 fun s => K [] s)
 .ret)), [(.cellN n21 q2)], [q0], [q3, q4]⟩
/- attestor/attestorlaw29.short -/
noncomputable def cf12 : HF := ⟨
(.seq (.reg [q0] fun c r s K => K [(.sc zn)] s)
 (.seq (.reg [q0] fun c r s K => h_op3_build [zb, zb, zb, zb] [(n0, n1, (.c B1)), (n3, n1, (.c B5))] c r s fun v0 s => h_op3_build [zb, zb, zb, zb] [(n0, n1, (.c B3)), (n2, n1, (.c B1))] c r s fun v1 s => h_op3_buildS n2 n4 [zb, zb, zb, zb, zb, zb, zb, zb] [(n0, n4, (.c v0)), (n4, n4, (.c v1))] c r s fun v2 s => K [v2] s)
 .ret)), [(.tmp q0)], [], [q1, q2, q3]⟩
/- attestor/attestorref28.Same -/
noncomputable def cf7 : HF := ⟨
(.seq (.reg [q4] fun c r s K => K [ff] s)
 (.seq (.seq (.reg [q10] fun c r s K => lnS (r q0) fun v0 => lnS (r q1) fun v1 => binK .neq v0 v1 fun v2 => K [v2] s)
 (.cond (.t q10) (.seq (.reg [q4] fun c r s K => K [ff] s)
 .ret)
 .skip))
 (.seq (.seq (.reg [q5] fun c r s K => K [I0] s)
 (.block n0 (.loop (.seq (.seq (.reg [q14] fun c r s K => lnS (r q0) fun v0 => binK .lss (r q5) v0 fun v1 => K [v1] s)
 (.cond (.t q14) .skip
 (.exit n0)))
 (.seq (.block n1 (.seq (.drw [q25] fun c r s K => (fun z m => ixs n21 (r q0) (r q5) fun v0 => dN z m n8 n7 s n21 v0 fun v1 m s => ixs n21 (r q1) (r q5) fun v2 => dN z m n128 n112 s n21 v2 fun v3 m s => h_op4_eqv (.flat [n1, n1, n1, n1, n1, n1, n1, n1, n1, n1, n1, n1, n1, n1, n1, n1, n1, n1, n1, n1, n1]) true (.c v1) (.c v3) c r s fun v4 s => K [v4] s) s.next mk0)
 (.cond (.t q25) (.seq (.reg [q4] fun c r s K => K [ff] s)
 .ret)
 .skip)))
 (.reg [q5] fun c r s K => binK .add (r q5) I1 fun v0 => K [v0] s))))))
 (.seq (.reg [q4] fun c r s K => K [tt] s)
 .ret)))), [(.tmp q4)], [q0, q1], [q6, q7, q8, q9, q11, q12, q13, q17, q18, q19, q20, q21, q22, q23, q24, q15, q16]⟩
/- attestor/attestorref29.Read -/
noncomputable def cf6 : HF := ⟨
(.seq (.reg [q1, q2, q3] fun c r s K => bxx s (r q0) fun v0 s => K [v0, (.sc zn), I0] s)
 (.seq (.seq (.reg [q13] fun c r s K => fad n1 (r q1) fun v0 => ld s v0 fun v1 => lnS v1 fun v2 => binK .lss v2 (i6 n50) fun v3 => K [v3] s)
 (.cond (.t q13) (.seq (.reg [q2, q3] fun c r s K => K [(.sc zn), I1] s)
 .ret)
 .skip))
 (.seq (.seq (.reg [q4] fun c r s K => K [I0] s)
 (.block n0 (.loop (.seq (.seq (.reg [q18] fun c r s K => fad n1 (r q1) fun v0 => ld s v0 fun v1 => lnS v1 fun v2 => binK .lss (r q4) v2 fun v3 => K [v3] s)
 (.cond (.t q18) .skip
 (.exit n0)))
 (.seq (.block n1 (.seq (.drw [q32] fun c r s K => (fun z m => fad n1 (r q1) fun v0 => dL z m n2 n1 s v0 fun v1 m s => ixs n1 v1 (r q4) fun v2 => dL z m n16 n15 s v2 fun v3 m s => lnS v3 fun v4 => fad n1 (r q1) fun v5 => dL z m n128 n64 s v5 fun v6 m s => ixs n1 v6 I0 fun v7 => dL z m (nat_lit 512) (nat_lit 448) s v7 fun v8 m s => lnS v8 fun v9 => binK .neq v4 v9 fun v10 => K [v10] s) s.next mk0)
 (.cond (.t q32) (.seq (.reg [q2, q3] fun c r s K => K [(.sc zn), I1] s)
 .ret)
 .skip)))
 (.reg [q4] fun c r s K => binK .add (r q4) I1 fun v0 => K [v0] s))))))
 (.seq (.reg [q5] fun c r s K => K [(.sc zn)] s)
 (.seq (.reg [q6] fun c r s K => alc s [zb, zb, zb, zb, zb, zb, zb, zb, zb, zb, zb, zb, zb, zb, zb, zb] fun v0 s => K [v0] s)
 (.seq (.seq (.reg [q7] fun c r s K => K [I0] s)
 (.block n2 (.loop (.seq (.seq (.reg [q39] fun c r s K => fad n1 (r q1) fun v0 => ld s v0 fun v1 => ixs n1 v1 I0 fun v2 => ld s v2 fun v3 => lnS v3 fun v4 => binK .lss (r q7) v4 fun v5 => K [v5] s)
 (.cond (.t q39) .skip
 (.exit n2)))
 (.seq (.block n3 (.seq (.reg [q8] fun c r s K => lN s n16 (r q6) fun v0 => h_op3_build [zi, zb, zb, zb, zb, zb, zb, zb, zb, zb, zb, zb, zb, zb, zb, zb, zb, zb, zb, zb, zb] [(n5, n16, (.c v0))] c r s fun v1 s => alc s [zi, zb, zb, zb, zb, zb, zb, zb, zb, zb, zb, zb, zb, zb, zb, zb, zb, zb, zb, zb, zb] fun v2 s => sto s n21 v2 v1 fun s => K [v2] s)
 (.seq (.seq (.reg [q51] fun c r s K => fad n1 (r q1) fun v0 => ld s v0 fun v1 => ixs n1 v1 I0 fun v2 => ld s v2 fun v3 => ixs n1 v3 (r q7) fun v4 => ld s v4 fun v5 => binK .gtr v5 U32 fun v6 => K [v6] s)
 (.cond (.t q51) (.seq (.reg [q2, q3] fun c r s K => K [(.sc zn), I2] s)
 .ret)
 .skip))
 (.seq (.reg [] fun c r s K => fad n1 (r q1) fun v0 => ld s v0 fun v1 => ixs n1 v1 I0 fun v2 => ld s v2 fun v3 => ixs n1 v3 (r q7) fun v4 => ld s v4 fun v5 => cnv .i64 v5 fun v6 => fad n0 (r q8) fun v7 => sto s n1 v7 v6 fun s => K [] s)
 (.seq (.seq (.reg [q9] fun c r s K => K [I0] s)
 (.block n4 (.loop (.seq (.seq (.reg [q62] fun c r s K => binK .lss (r q9) I4 fun v0 => K [v0] s)
 (.cond (.t q62) .skip
 (.exit n4)))
 (.seq (.block n5 (.seq (.seq (.reg [q74] fun c r s K => fad n1 (r q1) fun v0 => ld s v0 fun v1 => binK .add I1 (r q9) fun v2 => ixs n1 v1 v2 fun v3 => ld s v3 fun v4 => ixs n1 v4 (r q7) fun v5 => ld s v5 fun v6 => binK .gtr v6 (u6 (nat_lit 255)) fun v7 => K [v7] s)
 (.cond (.t q74) (.seq (.reg [q2, q3] fun c r s K => K [(.sc zn), I2] s)
 .ret)
 .skip))
 (.reg [] fun c r s K => fad n1 (r q1) fun v0 => ld s v0 fun v1 => binK .add I1 (r q9) fun v2 => ixs n1 v1 v2 fun v3 => ld s v3 fun v4 => ixs n1 v4 (r q7) fun v5 => ld s v5 fun v6 => cnv .u8 v6 fun v7 => fad n1 (r q8) fun v8 => ixA n4 n1 v8 (r q9) fun v9 => sto s n1 v9 v7 fun s => K [] s)))
 (.reg [q9] fun c r s K => binK .add (r q9) I1 fun v0 => K [v0] s))))))
 (.seq (.reg [q5] fun c r s K => lN s n21 (r q8) fun v0 => h_op3_buildS n1 n21 [zi, zb, zb, zb, zb, zb, zb, zb, zb, zb, zb, zb, zb, zb, zb, zb, zb, zb, zb, zb, zb] [(n0, n21, (.c v0))] c r s fun v1 s => xA n21 n32 (r q5) v1 c r s fun v2 s => K [v2] s)
 (.seq (.reg [q99] fun c r s K => fad n1 (r q1) fun v0 => ld s v0 fun v1 => ixs n1 v1 I11 fun v2 => ld s v2 fun v3 => ixs n1 v3 (r q7) fun v4 => ld s v4 fun v5 => binK .eql v5 U1 fun v6 => K [v6] s)
 (.cond (.t q99) (.seq (.seq (.reg [q117] fun c r s K => fad n1 (r q1) fun v0 => ld s v0 fun v1 => ixs n1 v1 I32 fun v2 => ld s v2 fun v3 => ixs n1 v3 (r q7) fun v4 => ld s v4 fun v5 => binK .gtr v5 U15 fun v6 => jf v6 (fad n1 (r q1)) s fun v7 s => jf v6 (ld s v7) s fun v8 s => jf v6 (ixs n1 v8 I34) s fun v9 s => jf v6 (ld s v9) s fun v10 s => mf v6 (r q7) s fun v11 s => jf v6 (ixs n1 v10 v11) s fun v12 s => jf v6 (ld s v12) s fun v13 s => jf v6 (binK .gtr v13 (u6 (nat_lit 255))) s fun v14 s => pck v6 tt v14 fun v15 => K [v15] s)
 (.cond (.t q117) (.seq (.reg [q2, q3] fun c r s K => K [(.sc zn), I2] s)
 .ret)
 .skip))
 (.drw [] fun c r s K => (fun z m => fad n1 (r q1) fun v0 => dL z m n2 n1 s v0 fun v1 m s => ixs n1 v1 I32 fun v2 => dL z m n8 n7 s v2 fun v3 m s => ixs n1 v3 (r q7) fun v4 => dL z m n64 n63 s v4 fun v5 m s => fad n1 (r q1) fun v6 => dL z m (nat_lit 256) n128 s v6 fun v7 m s => ixs n1 v7 I34 fun v8 => dL z m (nat_lit 1024) (nat_lit 896) s v8 fun v9 m s => ixs n1 v9 (r q7) fun v10 => dL z m (nat_lit 8192) (nat_lit 8064) s v10 fun v11 m s => cnv .u8 v11 fun v12 => ixA n16 n1 (r q6) v5 fun v13 => dS z m (nat_lit 65536) (nat_lit 65535) s n1 v13 v12 fun _ m s => K [] s) s.next mk0))
 .skip))))))))
 (.reg [q7] fun c r s K => binK .add (r q7) I1 fun v0 => K [v0] s))))))
 (.seq (.reg [q2, q3] fun c r s K => K [(r q5), I0] s)
 .ret))))))), [(.tmp q2), (.tmp q3)], [q0], [q10, q11, q12, q14, q15, q16, q17, q21, q22, q23, q24, q25, q26, q27, q28, q29, q30, q31, q19, q20, q33, q34, q35, q36, q37, q38, q42, q43, q44, q45, q46, q47, q48, q49, q50, q52, q53, q54, q55, q56, q57, q58, q59, q60, q61, q65, q66, q67, q68, q69, q70, q71, q72, q73, q75, q76, q77, q78, q79, q80, q81, q82, q83, q84, q85, q86, q87, q63, q64, q88, q89, q90, q91, q92, q93, q94, q95, q96, q97, q98, q100, q101, q102, q103, q104, q105, q106, q107, q108, q109, q110, q111, q112, q113, q114, q115, q116, q118, q119, q120, q121, q122, q123, q124, q125, q126, q127, q128, q129, q130, q131, q132, q133, q40, q41, q134]⟩
/- attestor/trace.Read -/
noncomputable def cf5 : HF := ⟨
(.seq (.reg [q1, q2, q3] fun c r s K => bxx s (r q0) fun v0 s => K [v0, (.sc zn), I0] s)
 (.seq (.seq (.reg [q22] fun c r s K => fad n1 (r q1) fun v0 => ld s v0 fun v1 => lnS v1 fun v2 => binK .lss v2 (i6 n50) fun v3 => jf v3 (fad n1 (r q1)) s fun v4 s => jf v3 (ld s v4) s fun v5 s => jn false v3 (fun j => h_op4_makeFunc n10 [(.c (r q1))] c r s j) s fun v6 s => jn false v3 (fun j => c n9 [v5, v6] s j) s fun v7 s => pck v3 tt v7 fun v8 => K [v8] s)
 (.cond (.t q22) (.seq (.reg [q2, q3] fun c r s K => K [(.sc zn), I1] s)
 .ret)
 .skip))
 (.seq (.reg [q4] fun c r s K => fad n1 (r q1) fun v0 => ld s v0 fun v1 => ixs n1 v1 I0 fun v2 => ld s v2 fun v3 => lnS v3 fun v4 => xM n21 n32 [zi, zb, zb, zb, zb, zb, zb, zb, zb, zb, zb, zb, zb, zb, zb, zb, zb, zb, zb, zb, zb] v4 v4 c r s fun v5 s => K [v5] s)
 (.seq (.reg [q5] fun c r s K => alc s [zb, zb, zb, zb, zb, zb, zb, zb, zb, zb, zb, zb, zb, zb, zb, zb] fun v0 s => K [v0] s)
 (.seq (.seq (.reg [q30, q31] fun c r s K => lnS (r q4) fun v0 => K [v0, I0] s)
 (.block n0 (.loop (.seq (.reg [q32] fun c r s K => binK .lss (r q31) (r q30) fun v0 => K [v0] s)
 (.seq (.cond (.t q32) .skip
 (.exit n0))
 (.seq (.block n1 (.seq (.reg [q6] fun c r s K => K [(r q31)] s)
 (.seq (.drw [q7] fun c r s K => (fun z m => fad n1 (r q1) fun v0 => dL z m n2 n1 s v0 fun v1 m s => ixs n1 v1 I0 fun v2 => dL z m n8 n7 s v2 fun v3 m s => ixs n1 v3 (r q6) fun v4 => dL z m n64 n63 s v4 fun v5 m s => h_op4_minmax false [(.c v5), (.c U33)] c r s fun v6 s => cnv .i64 v6 fun v7 => dN z m (nat_lit 512) n0 s n16 (r q5) fun v8 m s => h_op3_build [zi, zb, zb, zb, zb, zb, zb, zb, zb, zb, zb, zb, zb, zb, zb, zb, zb, zb, zb, zb, zb] [(n0, n1, (.c v7)), (n5, n16, (.c v8))] c r s fun v9 s => dw1 m (nat_lit 2048) (fun q => alc s [zi, zb, zb, zb, zb, zb, zb, zb, zb, zb, zb, zb, zb, zb, zb, zb, zb, zb, zb, zb, zb] q) fun v10 m s => dS z m (nat_lit 4096) (nat_lit 4095) s n21 v10 v9 fun _ m s => K [v10] s) s.next mk0)
 (.seq (.reg [q8] fun c r s K => fad n0 (r q7) fun v0 => ld s v0 fun v1 => binK .gtr v1 I32 fun v2 => K [v2] s)
 (.seq (.seq (.reg [q48] fun c r s K => K [I0] s)
 (.block n2 (.loop (.seq (.reg [q49] fun c r s K => binK .lss (r q48) I4 fun v0 => K [v0] s)
 (.seq (.cond (.t q49) .skip
 (.exit n2))
 (.seq (.block n3 (.seq (.reg [q9] fun c r s K => K [(r q48)] s)
 (.seq (.reg [q10] fun c r s K => fad n1 (r q1) fun v0 => ld s v0 fun v1 => binK .add I1 (r q9) fun v2 => ixs n1 v1 v2 fun v3 => ld s v3 fun v4 => ixs n1 v4 (r q6) fun v5 => ld s v5 fun v6 => K [v6] s)
 (.seq (.reg [q8] fun c r s K => mf (r q8) (r q10) s fun v0 s => jf (r q8) (binK .gtr v0 (u6 (nat_lit 255))) s fun v1 s => pck (r q8) tt v1 fun v2 => K [v2] s)
 (.reg [] fun c r s K => cnv .u8 (r q10) fun v0 => fad n1 (r q7) fun v1 => ixA n4 n1 v1 (r q9) fun v2 => sto s n1 v2 v0 fun s => K [] s)))))
 (.reg [q48] fun c r s K => binK .add (r q48) I1 fun v0 => K [v0] s)))))))
 (.seq (.seq (.drw [q11, q12] fun c r s K => (fun z m => fad n1 (r q1) fun v0 => dL z m n2 n1 s v0 fun v1 m s => ixs n1 v1 I32 fun v2 => dL z m n8 n7 s v2 fun v3 m s => ixs n1 v3 (r q6) fun v4 => dL z m n64 n63 s v4 fun v5 m s => fad n1 (r q1) fun v6 => dL z m (nat_lit 256) n128 s v6 fun v7 m s => ixs n1 v7 I34 fun v8 => dL z m (nat_lit 1024) (nat_lit 896) s v8 fun v9 m s => ixs n1 v9 (r q6) fun v10 => dL z m (nat_lit 8192) (nat_lit 8064) s v10 fun v11 m s => K [v5, v11] s) s.next mk0)
 (.seq (.reg [q92] fun c r s K => fad n1 (r q1) fun v0 => ld s v0 fun v1 => ixs n1 v1 I11 fun v2 => ld s v2 fun v3 => ixs n1 v3 (r q6) fun v4 => ld s v4 fun v5 => binK .eql v5 U1 fun v6 => K [v6] s)
 (.cond (.t q92) (.seq (.reg [q8] fun c r s K => mf (r q8) (r q11) s fun v0 s => jf (r q8) (binK .geq v0 U16) s fun v1 s => pck (r q8) tt v1 fun v2 => mf v2 (r q12) s fun v3 s => jf v2 (binK .gtr v3 (u6 (nat_lit 255))) s fun v4 s => pck v2 tt v4 fun v5 => K [v5] s)
 (.reg [] fun c r s K => binK .rem (r q11) U16 fun v0 => cnv .u8 (r q12) fun v1 => ixA n16 n1 (r q5) v0 fun v2 => sto s n1 v2 v1 fun s => K [] s))
 .skip)))
 (.seq (.seq (.reg [q107] fun c r s K => K [(r q8)] s)
 (.cond (.t q107) (.seq (.reg [q2, q3] fun c r s K => K [(.sc zn), I2] s)
 .ret)
 .skip))
 (.reg [] fun c r s K => lN s n21 (r q7) fun v0 => ixs n21 (r q4) (r q6) fun v1 => sto s n21 v1 v0 fun s => K [] s))))))))
 (.reg [q31] fun c r s K => binK .add (r q31) I1 fun v0 => K [v0] s)))))))
 (.seq (.reg [q2, q3] fun c r s K => K [(r q4), I0] s)
 .ret)))))), [(.tmp q2), (.tmp q3)], [q0], [q13, q14, q15, q16, q17, q18, q19, q20, q21, q23, q24, q25, q26, q27, q28, q29, q33, q34, q35, q36, q37, q38, q39, q40, q41, q42, q43, q44, q45, q46, q47, q50, q51, q52, q53, q54, q55, q56, q57, q58, q59, q60, q61, q62, q63, q64, q65, q66, q67, q68, q69, q70, q71, q72, q73, q74, q75, q76, q77, q78, q79, q80, q81, q82, q83, q84, q85, q86, q87, q88, q89, q90, q91, q93, q94, q95, q96, q97, q98, q99, q100, q101, q102, q103, q104, q105, q106, q108, q109, q110, q111, q112, q113]⟩
/- slices.ContainsFunc[[][]uint64,[]uint64] -/
noncomputable def cf9 : HF := ⟨
(.seq (.reg [q4] fun c r s K => K [ff] s)
 (.seq (.reg [q4] fun c r s K => c n14 [(r q0), (r q1)] s fun v0 s => binK .geq v0 I0 fun v1 => K [v1] s)
 .ret)), [(.tmp q4)], [q0, q1], [q5, q6, q7, q8]⟩
/- slices.IndexFunc[[][]uint64,[]uint64] -/
noncomputable def cf14 : HF := ⟨
(.seq (.reg [q4] fun c r s K => K [I0] s)
 (.seq (.seq (.reg [q7, q8] fun c r s K => lnS (r q0) fun v0 => K [v0, I0] s)
 (.block n0 (.loop (.seq (.reg [q9] fun c r s K => binK .lss (r q8) (r q7) fun v0 => K [v0] s)
 (.seq (.cond (.t q9) .skip
 (.exit n0))
 (.seq (.block n1 (.seq (.reg [q5] fun c r s K => K [(r q8)] s)
 (.seq (.reg [q16] fun c r s K => ixs n1 (r q0) (r q5) fun v0 => ld s v0 fun v1 => h_op4_callV (.c (r q1)) [(.c v1)] c r s fun v2 s => K [v2] s)
 (.cond (.t q16) (.seq (.reg [q4] fun c r s K => K [(r q5)] s)
 .ret)
 .skip))))
 (.reg [q8] fun c r s K => binK .add (r q8) I1 fun v0 => K [v0] s)))))))
 (.seq (.reg [q4] fun c r s K => (fun v0 => K [v0] s) (.sc (.int .i64 (.negSucc n0))))
 .ret))), [(.tmp q4)], [q0, q1], [q6, q10, q11, q12, q13, q14, q15, q17, q18]⟩
/- attestor/trace.Read$1 -/
noncomputable def cf10 : HF := ⟨
(.seq (.reg [q3] fun c r s K => K [ff] s)
 (.seq (.reg [q3] fun c r s K => lnS (r q0) fun v0 => fad n1 (r q1) fun v1 => ld s v1 fun v2 => ixs n1 v2 I0 fun v3 => ld s v3 fun v4 => lnS v4 fun v5 => binK .neq v0 v5 fun v6 => K [v6] s)
 .ret)), [(.tmp q3)], [q0, q1], [q4, q5, q6, q7, q8, q9, q10, q11]⟩
/- attestor/attestorlaw29.small -/
noncomputable def cf4 : HF := ⟨
(.seq (.reg [q1, q2] fun c r s K => bxx s (r q0) fun v0 s => alc s [zn, zn] fun v1 s => K [v0, v1] s)
 (.seq (.reg [q3] fun c r s K => K [(.sc zn)] s)
 (.seq (.seq (.reg [q4] fun c r s K => K [I0] s)
 (.block n0 (.loop (.seq (.seq (.reg [q14] fun c r s K => fad n1 (r q1) fun v0 => ld s v0 fun v1 => lnS v1 fun v2 => binK .lss (r q4) v2 fun v3 => mt v3 (r q4) s fun v4 s => jt v3 (binK .lss v4 (i6 n60)) s fun v5 s => pck v3 v5 ff fun v6 => K [v6] s)
 (.cond (.t q14) .skip
 (.exit n0)))
 (.seq (.block n1 (.seq (.reg [q5] fun c r s K => K [(.sc zn)] s)
 (.drw [q3] fun c r s K => (fun z m => fad n1 (r q1) fun v0 => dL z m n8 n4 s v0 fun v1 m s => ixs n1 v1 (r q4) fun v2 => dL z m n64 n60 s v2 fun v3 m s => fad n1 (r q1) fun v4 => dL z m (nat_lit 256) n128 s v4 fun v5 m s => ixs n1 v5 (r q4) fun v6 => dL z m (nat_lit 2048) (nat_lit 1920) s v6 fun v7 m s => lnS v7 fun v8 => h_op4_minmax false [(.c v8), (.c (i6 n40))] c r s fun v9 s => h_op3_sliceS n1 (.c v3) none (some (.c v9)) none c r s fun v10 s => dw5 z m (nat_lit 32768) (nat_lit 32766) s (.more (.more (.append n1 n8 (.c (r q5)) (.c v10)))) r (fun s q => xA n1 n8 (r q5) v10 c r s q) fun v11 m s => dw1 m (nat_lit 65536) (fun q => h_op3_buildS n1 n1 [zn] [(n0, n1, (.c v11))] c r s q) fun v12 m s => dw5 z m (nat_lit 131072) (nat_lit 131071) s (.more (.more (.append n1 n24 (.c (r q3)) (.c v12)))) r (fun s q => xA n1 n24 (r q3) v12 c r s q) fun v13 m s => K [v13] s) s.next mk0)))
 (.reg [q4] fun c r s K => binK .add (r q4) I1 fun v0 => K [v0] s))))))
 (.seq (.reg [] fun c r s K => fad n1 (r q1) fun v0 => sto s n1 v0 (r q3) fun s => K [] s)
 (.seq (.reg [] fun c r s K => lN s n2 (r q1) fun v0 => sto s n2 (r q2) v0 fun s => K [] s)
 .ret))))), [(.cellN n2 q2)], [q0], [q6, q7, q8, q9, q10, q11, q12, q13, q17, q18, q19, q20, q21, q22, q23, q24, q25, q26, q27, q28, q29, q30, q31, q32, q33, q34, q15, q16, q35, q36, q37]⟩
end Go.Proofs.YtphindkhkcncdaaDoor.Ev
