/- Compiled functions of the translated program, and that each is what the compiler makes of it; no conditions. -/
import Derived.Test.YtebbnkahklbhiaaGreatDoorEvC
import Derived.KernelRfl
namespace Go.Proofs.YtebbnkahklbhiaaGreatDoor.Ev
set_option maxRecDepth 100000
set_option linter.unusedVariables false
/- attestor/attestorlaw18.VerifierKnown -/
noncomputable def cf8 : HF := ⟨
(.seq (.reg [q0] fun c r s K => K [ff] s)
 (.seq (.reg [q1, q2, q3] fun c r s K => c n33 [] s fun v0 s => xE n0 v0 c r s fun v1 s => xE n1 v0 c r s fun v2 s => xE n2 v0 c r s fun v3 s => alc s [zi, zi, zi, zi, zi, zi, zi, zi, zn, zn, zn, zn, zi, zn] fun v4 s => alc s [zn, zn, zn, zu, zn, zn, zu, zn] fun v5 s => sto s n14 v4 v1 fun s => sto s n8 v5 v2 fun s => K [v4, v5, v3] s)
 (.seq (.seq (.reg [q23] fun c r s K => nott (r q3) fun v0 => jf v0 (lN s n14 (r q1)) s fun v1 s => jn false v0 (fun j => h_op3_buildS n1 n1 [zu] [(n0, n1, (.c U1))] c r s j) s fun v2 s => jf v0 (lN s n8 (r q2)) s fun v3 s => jn false v0 (fun j => c n34 [v1, v2, v3] s j) s fun v4 s => jf v0 (binK .neq v4 I1) s fun v5 s => pck v0 tt v5 fun v6 => K [v6] s)
 (.cond (.t q23) (.seq (.reg [q0] fun c r s K => K [ff] s)
 .ret)
 .skip))
 (.seq (.reg [q4, q5] fun c r s K => lN s n14 (r q1) fun v0 => c n35 [v0, (.sc zn), (.sc zn)] s fun v1 s => xE n0 v1 c r s fun v2 s => xE n1 v1 c r s fun v3 s => K [v2, v3] s)
 (.seq (.reg [q6] fun c r s K => c n36 [] s fun v0 s => alc s [zi, zi, zi, zi, zn, zn, zn, zn] fun v1 s => sto s n8 v1 v0 fun s => K [v1] s)
 (.seq (.reg [] fun c r s K => fad n0 (r q6) fun v0 => sto s n1 v0 I3 fun s => K [] s)
 (.seq (.reg [] fun c r s K => fad n5 (r q6) fun v0 => ld s v0 fun v1 => ixs n2 v1 I0 fun v2 => fad n1 v2 fun v3 => ld s v3 fun v4 => ixs n2 v4 I1 fun v5 => fad n0 v5 fun v6 => sto s n1 v6 (u6 (nat_lit 998244352)) fun s => K [] s)
 (.seq (.reg [] fun c r s K => fad n5 (r q6) fun v0 => ld s v0 fun v1 => ixs n2 v1 I0 fun v2 => fad n1 v2 fun v3 => ld s v3 fun v4 => ixs n2 v4 I2 fun v5 => fad n0 v5 fun v6 => sto s n1 v6 (u6 (nat_lit 998244352)) fun s => K [] s)
 (.seq (.reg [q7] fun c r s K => h_op3_build [zi, zi, zi, zi] [(n0, n1, (.c I1)), (n1, n1, (.c I1)), (n2, n1, (.c I2))] c r s fun v0 s => alc s [zi, zi, zi, zi] fun v1 s => sto s n4 v1 v0 fun s => K [v1] s)
 (.seq (.reg [q8] fun c r s K => lN s n8 (r q6) fun v0 => lN s n4 (r q7) fun v1 => c n10 [v0, v1] s fun v2 s => xE n0 v2 c r s fun v3 s => xE n1 v2 c r s fun v4 s => sto s n14 (r q1) v3 fun s => K [v4] s)
 (.seq (.reg [q9] fun c r s K => lN s n8 (r q6) fun v0 => lN s n4 (r q7) fun v1 => h_op3_buildS n4 n1 [zu, zu, zu, zu] [(n0, n1, (.c U7)), (n1, n1, (.c U8)), (n2, n1, (.c U9)), (n3, n1, (.c U10))] c r s fun v2 s => h_op3_buildS n1 n1 [zn] [(n0, n1, (.c v2))] c r s fun v3 s => h_op3_build [zn, zn] [(n1, n1, (.c v3))] c r s fun v4 s => c n16 [v0, v1, v4] s fun v5 s => xE n0 v5 c r s fun v6 s => xE n1 v5 c r s fun v7 s => sto s n8 (r q2) v6 fun s => K [v7] s)
 (.seq (.seq (.reg [q81] fun c r s K => binK .neq (r q8) I0 fun v0 => mf v0 (r q9) s fun v1 s => jf v0 (binK .neq v1 I0) s fun v2 s => pck v0 tt v2 fun v3 => jf v3 (fad n7 (r q2)) s fun v4 s => jf v3 (ld s v4) s fun v5 s => jf v3 (lnS v5) s fun v6 s => jf v3 (binK .neq v6 I2) s fun v7 s => pck v3 tt v7 fun v8 => jf v8 (fad n7 (r q2)) s fun v9 s => jf v8 (ld s v9) s fun v10 s => jf v8 (ixs n13 v10 I0) s fun v11 s => jf v8 (fad n1 v11) s fun v12 s => jf v8 (ld s v12) s fun v13 s => jf v8 (lnS v13) s fun v14 s => jf v8 (binK .neq v14 I1) s fun v15 s => pck v8 tt v15 fun v16 => K [v16] s)
 (.cond (.t q81) (.seq (.reg [q0] fun c r s K => K [ff] s)
 .ret)
 .skip))
 (.seq (.drw [] fun c r s K => (fun z m => fad n7 (r q2) fun v0 => dL z m n2 n1 s v0 fun v1 m s => fad n7 (r q2) fun v2 => dL z m n8 n4 s v2 fun v3 m s => ixs n13 v3 I0 fun v4 => fad n1 v4 fun v5 => dL z m n64 n60 s v5 fun v6 m s => ixs n1 v6 I0 fun v7 => dL z m (nat_lit 256) (nat_lit 252) s v7 fun v8 m s => binK .add v8 U1 fun v9 => binK .rem v9 (u6 (nat_lit 998244353)) fun v10 => dw1 m (nat_lit 2048) (fun q => h_op3_buildS n1 n1 [zu] [(n0, n1, (.c v10))] c r s q) fun v11 m s => ixs n13 v1 I0 fun v12 => fad n1 v12 fun v13 => dS z m (nat_lit 16384) (nat_lit 16383) s n1 v13 v11 fun _ m s => K [] s) s.next mk0)
 (.seq (.reg [q0] fun c r s K => binK .eql (r q4) I5 fun v0 => mt v0 (r q5) s fun v1 s => jt v0 (binK .eql v1 I0) s fun v2 s => pck v0 v2 ff fun v3 => jt v3 (lN s n14 (r q1)) s fun v4 s => jt v3 (lN s n8 (r q2)) s fun v5 s => jn true v3 (fun j => c n34 [v4, (.sc zn), v5] s j) s fun v6 s => jt v3 (binK .eql v6 I13) s fun v7 s => pck v3 v7 ff fun v8 => jn true v8 (fun j => c n37 [] s j) s fun v9 s => pck v8 v9 ff fun v10 => K [v10] s)
 .ret)))))))))))))), [(.tmp q0)], [], [q11, q10, q12, q13, q14, q15, q16, q17, q18, q19, q20, q21, q22, q25, q26, q24, q27, q28, q29, q30, q31, q32, q33, q34, q35, q36, q37, q38, q39, q40, q41, q42, q43, q44, q45, q47, q48, q49, q46, q50, q51, q53, q54, q55, q56, q57, q58, q52, q59, q60, q61, q62, q63, q64, q65, q66, q67, q68, q69, q70, q71, q72, q73, q74, q75, q76, q77, q78, q79, q80, q82, q83, q84, q85, q86, q87, q88, q89, q90, q91, q92, q93, q94, q95, q96, q97, q98, q99, q100, q101, q102, q103, q104, q105, q106, q107, q108, q109, q110]⟩
/- attestor/attestorlaw18.live -/
noncomputable def cf37 : HF := ⟨
(.seq (.reg [q0] fun c r s K => K [ff] s)
 (.seq (.reg [q1, q2, q3] fun c r s K => c n33 [] s fun v0 s => xE n0 v0 c r s fun v1 s => xE n1 v0 c r s fun v2 s => xE n2 v0 c r s fun v3 s => alc s [zi, zi, zi, zi, zi, zi, zi, zi, zn, zn, zn, zn, zi, zn] fun v4 s => alc s [zn, zn, zn, zu, zn, zn, zu, zn] fun v5 s => sto s n14 v4 v1 fun s => sto s n8 v5 v2 fun s => K [v4, v5, v3] s)
 (.seq (.seq (.reg [q16] fun c r s K => nott (r q3) fun v0 => jf v0 (lN s n14 (r q1)) s fun v1 s => jf v0 (lN s n8 (r q2)) s fun v2 s => jn false v0 (fun j => c n34 [v1, (.sc zn), v2] s j) s fun v3 s => jf v0 (binK .neq v3 I0) s fun v4 s => pck v0 tt v4 fun v5 => K [v5] s)
 (.cond (.t q16) (.seq (.reg [q0] fun c r s K => K [ff] s)
 .ret)
 .skip))
 (.seq (.reg [] fun c r s K => fad n7 (r q2) fun v0 => ld s v0 fun v1 => h_op3_sliceS n13 (.c v1) none (some (.c I1)) none c r s fun v2 s => fad n7 (r q2) fun v3 => sto s n1 v3 v2 fun s => K [] s)
 (.seq (.reg [q0] fun c r s K => lN s n14 (r q1) fun v0 => lN s n8 (r q2) fun v1 => c n34 [v0, (.sc zn), v1] s fun v2 s => binK .eql v2 I12 fun v3 => K [v3] s)
 .ret))))), [(.tmp q0)], [], [q5, q4, q6, q7, q8, q9, q10, q11, q12, q13, q14, q15, q17, q18, q19, q20, q21, q22, q23, q24]⟩
/- attestor/prover.Prove -/
noncomputable def cf16 : HF := ⟨
(.seq (.reg [q3, q4, q5, q6, q7] fun c r s K => bxx s (r q0) fun v0 s => bxx s (r q1) fun v1 s => bxx s (r q2) fun v2 s => alc s [zn, zn, zn, zu, zn, zn, zu, zn] fun v3 s => K [v0, v1, v2, v3, I0] s)
 (.seq (.seq (.reg [q36] fun c r s K => lN s n8 (r q3) fun v0 => lN s n4 (r q4) fun v1 => c n12 [v0, v1] s fun v2 s => nott v2 fun v3 => jf v3 (lN s n8 (r q3)) s fun v4 s => jf v3 (lN s n2 (r q5)) s fun v5 s => jn false v3 (fun j => c n48 [v4, v5] s j) s fun v6 s => jf v3 (nott v6) s fun v7 s => pck v3 tt v7 fun v8 => K [v8] s)
 (.cond (.t q36) (.seq (.reg [q7] fun c r s K => h_op3_build [zn, zn, zn, zu, zn, zn, zu, zn] [] c r s fun v0 s => sto s n8 (r q6) v0 fun s => K [I1] s)
 .ret)
 .skip))
 (.seq (.seq (.reg [q8] fun c r s K => lN s n8 (r q3) fun v0 => lN s n2 (r q5) fun v1 => c n49 [v0, v1] s fun v2 s => xE n0 v2 c r s fun v3 s => xE n1 v2 c r s fun v4 s => K [v3] s)
 (.seq (.reg [q45] fun c r s K => nott (r q8) fun v0 => K [v0] s)
 (.cond (.t q45) (.seq (.reg [q7] fun c r s K => h_op3_build [zn, zn, zn, zu, zn, zn, zu, zn] [] c r s fun v0 s => sto s n8 (r q6) v0 fun s => K [I7] s)
 .ret)
 .skip)))
 (.seq (.reg [q10, q11] fun c r s K => lN s n8 (r q3) fun v0 => lN s n4 (r q4) fun v1 => c n10 [v0, v1] s fun v2 s => xE n0 v2 c r s fun v3 s => xE n1 v2 c r s fun v4 s => alc s [zi, zi, zi, zi, zi, zi, zi, zi, zn, zn, zn, zn, zi, zn] fun v5 s => sto s n14 v5 v3 fun s => K [v5, v4] s)
 (.seq (.seq (.reg [q54] fun c r s K => binK .neq (r q11) I0 fun v0 => K [v0] s)
 (.cond (.t q54) (.seq (.reg [q7] fun c r s K => h_op3_build [zn, zn, zn, zu, zn, zn, zu, zn] [] c r s fun v0 s => sto s n8 (r q6) v0 fun s => K [(r q11)] s)
 .ret)
 .skip))
 (.seq (.reg [q12] fun c r s K => lN s n8 (r q3) fun v0 => lN s n4 (r q4) fun v1 => h_op3_build [zi, zn, zn, zn, zn, zn, zi, zi, zi, zi, zn, zn, zn, zn, zi, zi, zi, zi, zi, zu, zu, zu, zu, zn, zn, zn, zu, zn, zn, zu, zn] [(n6, n8, (.c v0)), (n14, n4, (.c v1))] c r s fun v2 s => bxx s v2 fun v3 s => K [v3] s)
 (.seq (.reg [] fun c r s K => lN s n14 (r q10) fun v0 => fad n0 (r q5) fun v1 => ld s v1 fun v2 => c n24 [v0, v2] s fun v3 s => xE n0 v3 c r s fun v4 s => xE n1 v3 c r s fun v5 s => xC (r q12) c r s fun v6 s => fad n18 v6 fun v7 => sto s n5 v7 v4 fun s => K [] s)
 (.seq (.drw [] fun c r s K => (fun z m => fad n0 (r q4) fun v0 => dL z m n4 n2 s v0 fun v1 m s => dN z m n8 n0 s n8 (r q3) fun v2 m s => fad n0 (r q4) fun v3 => dL z m n32 n16 s v3 fun v4 m s => fad n4 (r q3) fun v5 => dL z m n128 n64 s v5 fun v6 m s => dw3 m (nat_lit 256) (nat_lit 248) s (fun s q => c n40 [v2, v4, v6] s q) fun v7 m s => dN z m (nat_lit 512) n0 s n8 (r q3) fun v8 m s => fad n0 (r q4) fun v9 => dL z m (nat_lit 2048) (nat_lit 1024) s v9 fun v10 m s => fad n1 (r q5) fun v11 => dL z m (nat_lit 8192) (nat_lit 4096) s v11 fun v12 m s => dw3 m (nat_lit 16384) (nat_lit 16376) s (fun s q => c n40 [v8, v10, v12] s q) fun v13 m s => fad n0 (r q5) fun v14 => dL z m (nat_lit 65536) (nat_lit 32768) s v14 fun v15 m s => h_op3_build [zi, zn, zn, zn, zn, zn] [(n0, n1, (.c v1)), (n1, n1, (.c v7)), (n2, n1, (.c v13)), (n4, n1, (.c v15))] c r s fun v16 s => xC (r q12) c r s fun v17 s => fad n0 v17 fun v18 => dS z m (nat_lit 1048576) (nat_lit 1048575) s n6 v18 v16 fun _ m s => K [] s) s.next mk0)
 (.seq (.drw [q13] fun c r s K => (fun z m => dN z m n1 n0 s n8 (r q3) fun v0 m s => dN z m n2 n0 s n4 (r q4) fun v1 m s => xC (r q12) c r s fun v2 s => fad n0 v2 fun v3 => fad n1 v3 fun v4 => dL z m n64 n60 s v4 fun v5 m s => dw3 m n128 n127 s (fun s q => c n39 [v0, v1, v5] s q) fun v6 m s => dw1 m (nat_lit 256) (fun q => alc s [zn, zi, zi, zi, zn] q) fun v7 m s => dS z m (nat_lit 512) (nat_lit 511) s n5 v7 v6 fun _ m s => K [v7] s) s.next mk0)
 (.seq (.reg [q14, q15, q16] fun c r s K => alc s [zn, zi, zi, zi, zn] fun v0 s => alc s [zn, zi, zi, zi, zn] fun v1 s => alc s [zn, zi, zi, zi, zn] fun v2 s => K [v0, v1, v2] s)
 (.seq (.reg [] fun c r s K => xC (r q12) c r s fun v0 s => fad n0 v0 fun v1 => fad n2 v1 fun v2 => ld s v2 fun v3 => c n50 [(r q12), v3] s fun v4 s => xE n0 v4 c r s fun v5 s => xE n1 v4 c r s fun v6 s => sto s n5 (r q14) v5 fun s => xC (r q12) c r s fun v8 s => fad n23 v8 fun v9 => fad n0 v9 fun v10 => sto s n1 v10 v6 fun s => K [] s)
 (.seq (.seq (.reg [q116] fun c r s K => lN s n2 (r q5) fun v0 => c n51 [(r q12), v0] s fun v1 s => nott v1 fun v2 => K [v2] s)
 (.cond (.t q116) (.seq (.reg [q7] fun c r s K => h_op3_build [zn, zn, zn, zu, zn, zn, zu, zn] [] c r s fun v0 s => sto s n8 (r q6) v0 fun s => K [I9] s)
 .ret)
 .skip))
 (.seq (.reg [] fun c r s K => xC (r q12) c r s fun v0 s => fad n0 v0 fun v1 => fad n3 v1 fun v2 => ld s v2 fun v3 => c n50 [(r q12), v3] s fun v4 s => xE n0 v4 c r s fun v5 s => xE n1 v4 c r s fun v6 s => sto s n5 (r q15) v5 fun s => xC (r q12) c r s fun v8 s => fad n23 v8 fun v9 => fad n1 v9 fun v10 => sto s n1 v10 v6 fun s => K [] s)
 (.seq (.drw [q17, q11] fun c r s K => (fun z m => dN z m n1 n0 s n8 (r q3) fun v0 m s => xC (r q12) c r s fun v1 s => fad n0 v1 fun v2 => dN z m n16 n14 s n6 v2 fun v3 m s => dw3 m n64 n32 s (fun s q => c n53 [(r q12)] s q) fun v4 m s => dw3 m n128 n127 s (fun s q => c n52 [v0, v3, v4] s q) fun v5 m s => xE n0 v5 c r s fun v6 s => xE n1 v5 c r s fun v7 s => K [v6, v7] s) s.next mk0)
 (.seq (.seq (.reg [q144] fun c r s K => binK .neq (r q11) I0 fun v0 => K [v0] s)
 (.cond (.t q144) (.seq (.reg [q7] fun c r s K => h_op3_build [zn, zn, zn, zu, zn, zn, zu, zn] [] c r s fun v0 s => sto s n8 (r q6) v0 fun s => K [(r q11)] s)
 .ret)
 .skip))
 (.seq (.reg [] fun c r s K => c n50 [(r q12), (r q17)] s fun v0 s => xE n0 v0 c r s fun v1 s => xE n1 v0 c r s fun v2 s => sto s n5 (r q16) v1 fun s => xC (r q12) c r s fun v4 s => fad n23 v4 fun v5 => fad n2 v5 fun v6 => sto s n1 v6 v2 fun s => K [] s)
 (.seq (.drw [q18] fun c r s K => (fun z m => fad n0 (r q3) fun v0 => dL z m n2 n1 s v0 fun v1 m s => xC (r q12) c r s fun v2 s => fad n0 v2 fun v3 => fad n2 v3 fun v4 => dL z m n64 n60 s v4 fun v5 m s => xC (r q12) c r s fun v6 s => fad n0 v6 fun v7 => fad n3 v7 fun v8 => dL z m (nat_lit 2048) (nat_lit 1920) s v8 fun v9 m s => xC (r q12) c r s fun v10 s => fad n0 v10 fun v11 => fad n1 v11 fun v12 => dL z m (nat_lit 65536) (nat_lit 61440) s v12 fun v13 m s => dw1 m (nat_lit 262144) (fun q => h_op3_buildS n4 n1 [zn, zn, zn, zn] [(n0, n1, (.c v5)), (n1, n1, (.c v9)), (n2, n1, (.c v13)), (n3, n1, (.c (r q17)))] c r s q) fun v14 m s => dw3 m (nat_lit 524288) (nat_lit 524284) s (fun s q => c n55 [v14] s q) fun v15 m s => dw3 m (nat_lit 2097152) (nat_lit 2097148) s (fun s q => c n53 [(r q12)] s q) fun v16 m s => dw3 m (nat_lit 4194304) (nat_lit 4194303) s (fun s q => c n54 [v1, v15, v16] s q) fun v17 m s => K [v17] s) s.next mk0)
 (.seq (.reg [q19] fun c r s K => lN s n14 (r q10) fun v0 => c n26 [v0] s fun v1 s => xE n0 v1 c r s fun v2 s => xE n1 v1 c r s fun v3 s => alc s [zi, zi, zu, zi, zi] fun v4 s => sto s n5 v4 v2 fun s => K [v4] s)
 (.seq (.drw [q21, q22, q11] fun c r s K => (fun z m => dN z m n1 n0 s n5 (r q19) fun v0 m s => xC (r q12) c r s fun v1 s => fad n18 v1 fun v2 => dN z m n32 n28 s n5 v2 fun v3 m s => dw3 m n64 n63 s (fun s q => c n56 [v0, (r q18), v3] s q) fun v4 m s => xE n0 v4 c r s fun v5 s => xE n1 v4 c r s fun v6 s => xE n2 v4 c r s fun v7 s => dw1 m (nat_lit 2048) (fun q => alc s [zi, zi, zu, zi, zi, zn, zn, zn] q) fun v8 m s => dw1 m (nat_lit 4096) (fun q => alc s [zi, zu, zu, zu, zu] q) fun v9 m s => dS z m (nat_lit 8192) (nat_lit 6655) s n8 v8 v5 fun _ m s => dS z m (nat_lit 16384) (nat_lit 15359) s n5 v9 v6 fun _ m s => K [v8, v9, v7] s) s.next mk0)
 (.seq (.seq (.reg [q197] fun c r s K => binK .neq (r q11) I0 fun v0 => K [v0] s)
 (.cond (.t q197) (.seq (.reg [q7] fun c r s K => h_op3_build [zn, zn, zn, zu, zn, zn, zu, zn] [] c r s fun v0 s => sto s n8 (r q6) v0 fun s => K [(r q11)] s)
 .ret)
 .skip))
 (.seq (.reg [] fun c r s K => lN s n5 (r q22) fun v0 => xC (r q12) c r s fun v1 s => fad n18 v1 fun v2 => sto s n5 v2 v0 fun s => K [] s)
 (.seq (.drw [] fun c r s K => (fun z m => fad n6 (r q21) fun v0 => fad n0 v0 fun v1 => dL z m n16 n12 s v1 fun v2 m s => fad n6 (r q21) fun v3 => fad n1 v3 fun v4 => dL z m n128 n96 s v4 fun v5 m s => xC (r q12) c r s fun v6 s => fad n23 v6 fun v7 => fad n4 v7 fun v8 => dS z m (nat_lit 2048) (nat_lit 1821) s n1 v8 v2 fun _ m s => xC (r q12) c r s fun v10 s => fad n23 v10 fun v11 => fad n5 v11 fun v12 => dS z m (nat_lit 32768) (nat_lit 32767) s n1 v12 v5 fun _ m s => K [] s) s.next mk0)
 (.seq (.drw [q23, q24] fun c r s K => (fun z m => xC (r q12) c r s fun v0 s => fad n18 v0 fun v1 => dN z m n8 n7 s n5 v1 fun v2 m s => fad n3 (r q4) fun v3 => dL z m n32 n16 s v3 fun v4 m s => dw3 m n64 n63 s (fun s q => c n57 [v2, v4, (i6 (nat_lit 1048576))] s q) fun v5 m s => xE n0 v5 c r s fun v6 s => xE n1 v5 c r s fun v7 s => K [v6, v7] s) s.next mk0)
 (.seq (.seq (.reg [q229] fun c r s K => nott (r q24) fun v0 => K [v0] s)
 (.cond (.t q229) (.seq (.reg [q7] fun c r s K => h_op3_build [zn, zn, zn, zu, zn, zn, zu, zn] [] c r s fun v0 s => sto s n8 (r q6) v0 fun s => K [I9] s)
 .ret)
 .skip))
 (.seq (.reg [] fun c r s K => xC (r q12) c r s fun v0 s => fad n23 v0 fun v1 => fad n6 v1 fun v2 => sto s n1 v2 (r q23) fun s => K [] s)
 (.seq (.drw [] fun c r s K => (fun z m => xC (r q12) c r s fun v0 s => fad n18 v0 fun v1 => dN z m n16 n14 s n5 v1 fun v2 m s => fad n3 (r q4) fun v3 => dL z m n128 n64 s v3 fun v4 m s => dw3 m (nat_lit 256) (nat_lit 254) s (fun s q => c n58 [v2, (r q23), v4] s q) fun v5 m s => xE n0 v5 c r s fun v6 s => xE n1 v5 c r s fun v7 s => xC (r q12) c r s fun v8 s => fad n18 v8 fun v9 => dS z m (nat_lit 16384) (nat_lit 14335) s n5 v9 v6 fun _ m s => K [] s) s.next mk0)
 (.seq (.reg [q25] fun c r s K => fad n1 (r q3) fun v0 => ld s v0 fun v1 => fad n0 (r q4) fun v2 => ld s v2 fun v3 => binK .add v1 v3 fun v4 => K [v4] s)
 (.seq (.seq (.reg [(.r q127), (.l q128)] fun c r s K => fad n2 (r q4) fun v0 => ld s v0 fun v1 => K [v1, I0] s)
 (.block n0 (.loop (.seq (.reg [(.r q128)] fun c r s K => binK .lss (r (.l q128)) (r (.r q127)) fun v0 => K [v0] s)
 (.seq (.cond (.t (.r q128)) .skip
 (.exit n0))
 (.seq (.block n1 (.seq (.reg [q26] fun c r s K => K [I0] s)
 (.seq (.reg [q26] fun c r s K => xC (r q12) c r s fun v0 s => fad n18 v0 fun v1 => lN s n5 v1 fun v2 => c n59 [v2, (r q25)] s fun v3 s => xE n0 v3 c r s fun v4 s => xE n1 v3 c r s fun v5 s => xC (r q12) c r s fun v6 s => fad n18 v6 fun v7 => sto s n5 v7 v4 fun s => K [v5] s)
 (.drw [] fun c r s K => (fun z m => xC (r q12) c r s fun v0 s => fad n23 v0 fun v1 => fad n7 v1 fun v2 => dL z m n32 n30 s v2 fun v3 m s => dN z m n64 n0 s n8 (r q21) fun v4 m s => dN z m n128 n0 s n5 (r q13) fun v5 m s => dN z m (nat_lit 256) n0 s n5 (r q14) fun v6 m s => dN z m (nat_lit 512) n0 s n5 (r q15) fun v7 m s => dN z m (nat_lit 1024) n0 s n5 (r q16) fun v8 m s => fad n0 (r q4) fun v9 => dL z m (nat_lit 16384) (nat_lit 8192) s v9 fun v10 m s => xS true I1 v10 c r s fun v11 s => binK .add (r q26) v11 fun v12 => xS true I1 (r q25) c r s fun v13 s => binK .rem v12 v13 fun v14 => dw3 m (nat_lit 1048576) (nat_lit 1048512) s (fun s q => c n60 [v4, v5, v6, v7, v8, (r q26), v14] s q) fun v15 m s => dw1 m (nat_lit 2097152) (fun q => h_op3_buildS n1 n13 [zn, zn, zn, zn, zn, zn, zn, zn, zn, zn, zn, zn, zn] [(n0, n13, (.c v15))] c r s q) fun v16 m s => dw5 z m (nat_lit 4194304) (nat_lit 4194302) s (.more (.more (.append n13 (nat_lit 312) (.c v3) (.c v16)))) r (fun s q => xA n13 (nat_lit 312) v3 v16 c r s q) fun v17 m s => xC (r q12) c r s fun v18 s => fad n23 v18 fun v19 => fad n7 v19 fun v20 => dS z m (nat_lit 67108864) (nat_lit 67108863) s n1 v20 v17 fun _ m s => K [] s) s.next mk0))))
 (.reg [(.l q128)] fun c r s K => binK .add (r (.l q128)) I1 fun v0 => K [v0] s)))))))
 (.seq (.reg [q7] fun c r s K => xC (r q12) c r s fun v0 s => fad n23 v0 fun v1 => lN s n8 v1 fun v2 => sto s n8 (r q6) v2 fun s => K [I0] s)
 .ret))))))))))))))))))))))))))))), [(.cellN n8 q6), (.tmp q7)], [q0, q1, q2], [q27, q28, q29, q30, q31, q32, q33, q34, q35, q37, q39, q40, q41, q38, q42, q43, q9, q44, q46, q48, q49, q50, q47, q51, q52, q53, q55, q56, q57, q58, q59, q60, q62, q63, q64, q65, q66, q61, q67, q68, q69, q70, q71, q72, q73, q74, q75, q76, q77, q78, q79, q80, q81, q82, q83, q84, q85, q86, q87, q88, q89, q90, q91, q92, q93, q94, q95, q96, q97, q98, q100, q101, q102, q103, q104, q105, q106, q107, q99, q108, q109, q110, q111, q112, q113, q114, q115, q117, q119, q120, q121, q122, q123, q124, q125, q126, q118, q127, q128, q129, q130, q131, q133, q134, q135, q136, q137, q138, q139, q140, q132, q141, q142, q143, q145, q146, q148, q149, q150, q151, q147, q152, q153, q154, q155, q156, q157, q158, q159, q160, q161, q162, q163, q164, q165, q166, q167, q168, q169, q170, q171, q172, q173, q174, q175, q176, q177, q178, q179, q181, q182, q180, q183, q184, q20, q186, q187, q188, q189, q190, q191, q192, q185, q193, q194, q195, q196, q198, q199, q200, q201, q202, q203, q204, q205, q206, q207, q208, q209, q210, q211, q212, q213, q214, q215, q216, q217, q219, q220, q221, q222, q223, q224, q225, q218, q226, q227, q228, q230, q231, q232, q233, q234, q235, q237, q238, q239, q240, q241, q242, q243, q244, q245, q236, q246, q247, q248, q249, q250, q251, q252, q253, q254, q255, (.r q129), (.l q130), (.r q130), (.l q131), (.r q131), (.l q132), (.r q132), (.l q129), (.l q133), (.r q133), (.l q134), (.r q134), (.l q135), (.r q135), (.l q136), (.r q136), (.l q137), (.r q137), (.l q138), (.r q138), (.l q139), (.r q139), (.l q140), (.r q140), (.l q141), (.r q141), (.l q142), (.r q142), (.l q143), (.r q143), (.l q144), (.r q144), (.l q145), (.r q145), (.l q146), (.r q146), (.l q147), (.r q147), (.l q148), (.r q148), (.l q149), (.r q149), (.l q150)]⟩
/- attestor/prover.open -/
noncomputable def cf60 : HF := ⟨
(.seq (.reg [q7, q8, q9, q10, q11, q14] fun c r s K => bxx s (r q0) fun v0 s => bxx s (r q1) fun v1 s => bxx s (r q2) fun v2 s => bxx s (r q3) fun v3 s => bxx s (r q4) fun v4 s => alc s [zn, zn, zn, zn, zn, zn, zn, zn, zn, zn, zn, zn, zn] fun v5 s => K [v0, v1, v2, v3, v4, v5] s)
 (.seq (.reg [q15] fun c r s K => alc s [zn, zn, zn, zn, zn, zn, zn, zn, zn, zn, zn, zn, zn] fun v0 s => K [v0] s)
 (.seq (.reg [] fun c r s K => lN s n5 (r q8) fun v0 => c n150 [v0, (r q5)] s fun v1 s => xE n0 v1 c r s fun v2 s => xE n1 v1 c r s fun v3 s => fad n0 (r q15) fun v4 => sto s n1 v4 v2 fun s => fad n6 (r q15) fun v6 => sto s n1 v6 v3 fun s => K [] s)
 (.seq (.reg [] fun c r s K => lN s n5 (r q9) fun v0 => c n150 [v0, (r q5)] s fun v1 s => xE n0 v1 c r s fun v2 s => xE n1 v1 c r s fun v3 s => fad n1 (r q15) fun v4 => sto s n1 v4 v2 fun s => fad n7 (r q15) fun v6 => sto s n1 v6 v3 fun s => K [] s)
 (.seq (.reg [] fun c r s K => lN s n5 (r q10) fun v0 => c n150 [v0, (r q5)] s fun v1 s => xE n0 v1 c r s fun v2 s => xE n1 v1 c r s fun v3 s => fad n2 (r q15) fun v4 => sto s n1 v4 v2 fun s => fad n8 (r q15) fun v6 => sto s n1 v6 v3 fun s => K [] s)
 (.seq (.reg [] fun c r s K => lN s n5 (r q11) fun v0 => c n150 [v0, (r q5)] s fun v1 s => xE n0 v1 c r s fun v2 s => xE n1 v1 c r s fun v3 s => fad n3 (r q15) fun v4 => sto s n1 v4 v2 fun s => fad n9 (r q15) fun v6 => sto s n1 v6 v3 fun s => K [] s)
 (.seq (.reg [] fun c r s K => lN s n5 (r q9) fun v0 => c n150 [v0, (r q6)] s fun v1 s => xE n0 v1 c r s fun v2 s => xE n1 v1 c r s fun v3 s => fad n4 (r q15) fun v4 => sto s n1 v4 v2 fun s => fad n10 (r q15) fun v6 => sto s n1 v6 v3 fun s => K [] s)
 (.seq (.reg [] fun c r s K => lN s n5 (r q10) fun v0 => c n150 [v0, (r q6)] s fun v1 s => xE n0 v1 c r s fun v2 s => xE n1 v1 c r s fun v3 s => fad n5 (r q15) fun v4 => sto s n1 v4 v2 fun s => fad n11 (r q15) fun v6 => sto s n1 v6 v3 fun s => K [] s)
 (.seq (.reg [q16] fun c r s K => lN s n8 (r q7) fun v0 => c n151 [v0, (r q5)] s fun v1 s => xE n0 v1 c r s fun v2 s => xE n1 v1 c r s fun v3 s => alc s [zn, zn] fun v4 s => sto s n2 v4 v2 fun s => K [v4] s)
 (.seq (.seq (.reg [q75, q76] fun c r s K => fad n0 (r q16) fun v0 => ld s v0 fun v1 => lnS v1 fun v2 => K [v2, I0] s)
 (.block n0 (.loop (.seq (.reg [q77] fun c r s K => binK .lss (r q76) (r q75) fun v0 => K [v0] s)
 (.seq (.cond (.t q77) .skip
 (.exit n0))
 (.seq (.block n1 (.seq (.reg [q18] fun c r s K => K [(r q76)] s)
 (.drw [] fun c r s K => (fun z m => fad n12 (r q15) fun v0 => dL z m n2 n1 s v0 fun v1 m s => fad n0 (r q16) fun v2 => dL z m n8 n4 s v2 fun v3 m s => ixs n8 v3 (r q18) fun v4 => dN z m n64 n60 s n8 v4 fun v5 m s => fad n1 (r q16) fun v6 => dL z m (nat_lit 256) n128 s v6 fun v7 m s => ixs n1 v7 (r q18) fun v8 => dL z m (nat_lit 2048) (nat_lit 1920) s v8 fun v9 m s => h_op3_build [zu, zu, zu, zu, zu, zu, zu, zu, zn] [(n0, n8, (.c v5)), (n8, n1, (.c v9))] c r s fun v10 s => dw1 m (nat_lit 8192) (fun q => h_op3_buildS n1 n9 [zu, zu, zu, zu, zu, zu, zu, zu, zn] [(n0, n9, (.c v10))] c r s q) fun v11 m s => dw5 z m (nat_lit 16384) (nat_lit 16383) s (.more (.more (.append n9 n88 (.c v1) (.c v11)))) r (fun s q => xA n9 n88 v1 v11 c r s q) fun v12 m s => fad n12 (r q15) fun v13 => dS z m (nat_lit 65536) (nat_lit 65535) s n1 v13 v12 fun _ m s => K [] s) s.next mk0)))
 (.reg [q76] fun c r s K => binK .add (r q76) I1 fun v0 => K [v0] s)))))))
 (.seq (.reg [] fun c r s K => lN s n13 (r q15) fun v0 => sto s n13 (r q14) v0 fun s => K [] s)
 .ret))))))))))), [(.cellN n13 q14)], [q0, q1, q2, q3, q4, q5, q6], [q20, q21, q22, q19, q23, q24, q25, q26, q28, q29, q30, q27, q31, q32, q33, q34, q36, q37, q38, q35, q39, q40, q41, q42, q44, q45, q46, q43, q47, q48, q49, q50, q52, q53, q54, q51, q55, q56, q57, q58, q60, q61, q62, q59, q63, q64, q65, q66, q68, q69, q70, q67, q71, q72, q17, q73, q74, q78, q79, q80, q81, q82, q83, q84, q85, q86, q87, q88, q89, q90, q91, q92, q93, q94, q95, q96]⟩
/- attestor/lowdegree.Open -/
noncomputable def cf151 : HF := ⟨
(.seq (.reg [q2, q3, q4, q5] fun c r s K => bxx s (r q0) fun v0 s => bxx s (r q1) fun v1 s => alc s [zn, zn] fun v2 s => alc s [zi] fun v3 s => K [v0, v1, v2, v3] s)
 (.seq (.block n0 (.seq (.reg [q13] fun c r s K => lN s n8 (r q2) fun v0 => c (nat_lit 277) [v0] s fun v1 s => nott v1 fun v2 => K [v2] s)
 (.cond (.t q13) (.seq (.reg [] fun c r s K => h_op3_build [zn, zn] [] c r s fun v0 s => sto s n2 (r q4) v0 fun s => sto s n1 (r q5) I1 fun s => K [] s)
 .ret)
 (.seq (.drw [q18] fun c r s K => (fun z m => dL z m n1 n0 s (r q3) fun v0 m s => binK .lss v0 I0 fun v1 => jnD false v1 (fun jj => dL z m n8 n7 s (r q3) jj) m s fun v2 m s => jnD false v1 (fun jj => fad n0 (r q2) fun v => jj v m s) m s fun v3 m s => jnD false v1 (fun jj => fad n0 v3 fun v => jj v m s) m s fun v4 m s => jnD false v1 (fun jj => dN z m n64 n55 s n3 v4 jj) m s fun v5 m s => jnD false v1 (fun jj => dw3 m n128 n119 s (fun s q => c n141 [v5] s q) jj) m s fun v6 m s => jnD false v1 (fun jj => binK .geq v2 v6 fun v => jj v m s) m s fun v7 m s => pck v1 tt v7 fun v8 => K [v8] s) s.next mk0)
 (.cond (.t q18) (.seq (.reg [] fun c r s K => h_op3_build [zn, zn] [] c r s fun v0 s => sto s n2 (r q4) v0 fun s => sto s n1 (r q5) I2 fun s => K [] s)
 .ret)
 .skip)))))
 (.seq (.reg [q6] fun c r s K => alc s [zn, zn] fun v0 s => K [v0] s)
 (.seq (.reg [q7] fun c r s K => h_op4_makeFunc (nat_lit 278) [(.c (r q6))] c r s fun v0 s => alc s [(.lit .nilFunc)] fun v1 s => sto s n1 v1 v0 fun s => K [v1] s)
 (.seq (.seq (.reg [q33] fun c r s K => fad n0 (r q2) fun v0 => lN s n5 v0 fun v1 => c n143 [v1] s fun v2 s => K [v2] s)
 (.block n1 (.rng n151 n0 (.t q33) [q34] (.reg [q8] fun c r s K => alc s [zi, zi, zi, zi, zu, zi, zi] fun v0 s => sto s n7 v0 (r q34) fun s => K [v0] s)
 (.block n2 (.seq (.drw [q9, q10] fun c r s K => (fun z m => dN z m n1 n0 s n7 (r q8) fun v0 m s => fad n5 (r q2) fun v1 => dL z m n4 n2 s v1 fun v2 m s => fad n0 (r q8) fun v3 => dL z m n16 n8 s v3 fun v4 m s => ixs n1 v2 v4 fun v5 => dL z m n64 n62 s v5 fun v6 m s => dw3 m n128 n127 s (fun s q => c n144 [v0, v6] s q) fun v7 m s => xE n0 v7 c r s fun v8 s => xE n1 v7 c r s fun v9 s => dw1 m (nat_lit 2048) (fun q => alc s [zi, zi, zi, zn] q) fun v10 m s => dS z m (nat_lit 4096) (nat_lit 3071) s n4 v10 v8 fun _ m s => K [v10, v9] s) s.next mk0)
 (.seq (.seq (.reg [q47] fun c r s K => binK .neq (r q10) I0 fun v0 => K [v0] s)
 (.cond (.t q47) (.seq (.reg [] fun c r s K => h_op3_build [zn, zn] [] c r s fun v0 s => sto s n2 (r q4) v0 fun s => sto s n1 (r q5) (r q10) fun s => K [] s)
 .ret)
 .skip))
 (.seq (.reg [q11] fun c r s K => ld s (r q3) fun v0 => fad n1 (r q8) fun v1 => ld s v1 fun v2 => binK .rem v0 v2 fun v3 => K [v3] s)
 (.seq (.reg [q12, q10] fun c r s K => lN s n4 (r q9) fun v0 => c (nat_lit 276) [v0, (r q11)] s fun v1 s => xE n0 v1 c r s fun v2 s => xE n1 v1 c r s fun v3 s => K [v2, v3] s)
 (.seq (.seq (.reg [q61] fun c r s K => binK .neq (r q10) I0 fun v0 => K [v0] s)
 (.cond (.t q61) (.seq (.reg [] fun c r s K => h_op3_build [zn, zn] [] c r s fun v0 s => sto s n2 (r q4) v0 fun s => sto s n1 (r q5) (r q10) fun s => K [] s)
 .ret)
 .skip))
 (.drw [] fun c r s K => (fun z m => dL z m n1 n0 s (r q7) fun v0 m s => fad n2 (r q8) fun v1 => dN z m n4 n2 s n3 v1 fun v2 m s => fad n5 (r q2) fun v3 => dL z m n16 n8 s v3 fun v4 m s => fad n0 (r q8) fun v5 => dL z m n64 n32 s v5 fun v6 m s => ixs n1 v4 v6 fun v7 => dL z m (nat_lit 256) (nat_lit 248) s v7 fun v8 m s => dw3 m (nat_lit 1024) (nat_lit 1022) s (fun s q => c (nat_lit 273) [v2, v8, (r q11)] s q) fun v9 m s => dw3 m (nat_lit 4096) (nat_lit 4095) s (fun s q => h_op4_callV (.c v0) [(.c v9), (.c (r q12))] c r s q) fun v10 m s => K [] s) s.next mk0))))))))))
 (.seq (.reg [] fun c r s K => lN s n2 (r q6) fun v0 => sto s n2 (r q4) v0 fun s => sto s n1 (r q5) I0 fun s => K [] s)
 .ret)))))), [(.cellN n2 q4), (.cell1 q5)], [q0, q1], [q14, q15, q16, q17, q19, q20, q21, q22, q23, q24, q25, q26, q27, q28, q29, q30, q31, q32, q36, q37, q38, q39, q40, q41, q42, q43, q35, q44, q45, q46, q48, q49, q50, q51, q52, q53, q55, q56, q57, q54, q58, q59, q60, q62, q63, q64, q65, q66, q67, q68, q69, q70, q71, q72, q73, q74, q75, q76, q77]⟩
/- attestor/fold.Leaf -/
noncomputable def cf273 : HF := ⟨
(.seq (.reg [q3, q6] fun c r s K => bxx s (r q0) fun v0 s => alc s [zu, zu, zu, zu, zu, zu, zu, zu] fun v1 s => K [v0, v1] s)
 (.seq (.reg [q7] fun c r s K => alc s [zu, zu, zu, zu, zu, zu, zu, zu] fun v0 s => K [v0] s)
 (.seq (.reg [q8] fun c r s K => lnS (r q1) fun v0 => binK .quo v0 I8 fun v1 => K [v1] s)
 (.seq (.seq (.reg [q25] fun c r s K => lN s n3 (r q3) fun v0 => c (nat_lit 268) [v0, (r q1)] s fun v1 s => nott v1 fun v2 => mf v2 (r q2) s fun v3 s => jf v2 (binK .lss v3 I0) s fun v4 s => pck v2 tt v4 fun v5 => mf v5 (r q2) s fun v6 s => mf v5 (r q8) s fun v7 s => jf v5 (binK .geq v6 v7) s fun v8 s => pck v5 tt v8 fun v9 => K [v9] s)
 (.cond (.t q25) (.seq (.reg [] fun c r s K => lN s n8 (r q7) fun v0 => sto s n8 (r q6) v0 fun s => K [] s)
 .ret)
 .skip))
 (.seq (.seq (.reg [q27] fun c r s K => K [I0] s)
 (.block n0 (.loop (.seq (.reg [q28] fun c r s K => binK .lss (r q27) I8 fun v0 => K [v0] s)
 (.seq (.cond (.t q28) .skip
 (.exit n0))
 (.seq (.block n1 (.seq (.reg [q9] fun c r s K => K [(r q27)] s)
 (.drw [] fun c r s K => (fun z m => fad n0 (r q3) fun v0 => dL z m n4 n2 s v0 fun v1 m s => binK .mul (r q9) (r q8) fun v2 => binK .add (r q2) v2 fun v3 => ixs n1 (r q1) v3 fun v4 => dL z m (nat_lit 1024) (nat_lit 1016) s v4 fun v5 m s => dw3 m (nat_lit 2048) (nat_lit 2046) s (fun s q => c (nat_lit 214) [v1, v5] s q) fun v6 m s => ixA n8 n1 (r q7) (r q9) fun v7 => dS z m (nat_lit 8192) (nat_lit 8191) s n1 v7 v6 fun _ m s => K [] s) s.next mk0)))
 (.reg [q27] fun c r s K => binK .add (r q27) I1 fun v0 => K [v0] s)))))))
 (.seq (.reg [] fun c r s K => lN s n8 (r q7) fun v0 => sto s n8 (r q6) v0 fun s => K [] s)
 .ret)))))), [(.cellN n8 q6)], [q0, q1, q2], [q10, q11, q12, q13, q14, q15, q16, q17, q18, q19, q20, q21, q22, q23, q24, q26, q29, q30, q31, q32, q33, q34, q35, q36, q37, q38, q39, q40, q41, q42, q43, q44]⟩
/- attestor/field.Reduce -/
noncomputable def cf214 : HF := ⟨
(.seq (.reg [q4] fun c r s K => K [U0] s)
 (.seq (.seq (.reg [q7] fun c r s K => c (nat_lit 181) [(r q0)] s fun v0 s => nott v0 fun v1 => K [v1] s)
 (.cond (.t q7) (.seq (.reg [q4] fun c r s K => K [U0] s)
 .ret)
 .skip))
 (.seq (.reg [q4] fun c r s K => c n85 [(r q0)] s fun v0 s => binK .rem (r q1) v0 fun v1 => K [v1] s)
 .ret))), [(.tmp q4)], [q0, q1], [q5, q6, q8, q9, q10, q11]⟩
/- attestor/field.P -/
noncomputable def cf85 : HF := ⟨
(.seq (.reg [q2] fun c r s K => K [U0] s)
 (.seq (.reg [q2] fun c r s K => c (nat_lit 180) [(r q0)] s fun v0 s => fld n0 n1 false v0 fun v1 => K [v1] s)
 .ret)), [(.tmp q2)], [q0], [q3, q4, q5]⟩
/- attestor/field.of -/
noncomputable def cf180 : HF := ⟨
(.seq (.reg [q2] fun c r s K => alc s [zu, zu, zi, zi, zn] fun v0 s => K [v0] s)
 (.seq (.seq (.reg [q5] fun c r s K => c (nat_lit 181) [(r q0)] s fun v0 s => nott v0 fun v1 => K [v1] s)
 (.cond (.t q5) (.seq (.reg [] fun c r s K => h_op3_build [zu, zu, zi, zi, zn] [] c r s fun v0 s => sto s n5 (r q2) v0 fun s => K [] s)
 .ret)
 .skip))
 (.seq (.reg [] fun c r s K => ixA n4 n5 (.sc (.ptr n0 n0)) (r q0) fun v0 => lN s n5 v0 fun v1 => sto s n5 (r q2) v1 fun s => K [] s)
 .ret))), [(.cellN n5 q2)], [q0], [q3, q4, q6, q7, q8, q9]⟩
/- attestor/field.Valid -/
noncomputable def cf181 : HF := ⟨
(.seq (.reg [q2] fun c r s K => K [ff] s)
 (.seq (.reg [q2] fun c r s K => binK .geq (r q0) I0 fun v0 => mt v0 (r q0) s fun v1 s => jt v0 (binK .lss v1 I4) s fun v2 s => pck v0 v2 ff fun v3 => K [v3] s)
 .ret)), [(.tmp q2)], [q0], [q3, q4, q5, q6, q7, q8]⟩
/- attestor/fold.isWord -/
noncomputable def cf268 : HF := ⟨
(.seq (.reg [q2, q4] fun c r s K => bxx s (r q0) fun v0 s => K [v0, ff] s)
 (.seq (.reg [q4] fun c r s K => lN s n3 (r q2) fun v0 => c (nat_lit 267) [v0] s fun v1 s => mt v1 (r q1) s fun v2 s => jt v1 (lnS v2) s fun v3 s => jt v1 (lN s n3 (r q2)) s fun v4 s => jn true v1 (fun j => c n141 [v4] s j) s fun v5 s => jt v1 (binK .eql v3 v5) s fun v6 s => pck v1 v6 ff fun v7 => K [v7] s)
 .ret)), [(.tmp q4)], [q0, q1], [q5, q6, q7, q8, q9, q10, q11, q12, q13]⟩
/- attestor/code.Valid -/
noncomputable def cf267 : HF := ⟨
(.seq (.reg [q1, q2] fun c r s K => bxx s (r q0) fun v0 s => K [v0, ff] s)
 (.seq (.drw [q2] fun c r s K => (fun z m => fad n0 (r q1) fun v0 => dL z m n2 n1 s v0 fun v1 m s => dw3 m n4 n3 s (fun s q => c (nat_lit 181) [v1] s q) fun v2 m s => jnD true v2 (fun jj => fad n1 (r q1) fun v => jj v m s) m s fun v3 m s => jnD true v2 (fun jj => dL z m n32 n31 s v3 jj) m s fun v4 m s => jnD true v2 (fun jj => binK .geq v4 I0 fun v => jj v m s) m s fun v5 m s => pck v2 v5 ff fun v6 => jnD true v6 (fun jj => fad n1 (r q1) fun v => jj v m s) m s fun v7 m s => jnD true v6 (fun jj => dL z m (nat_lit 1024) (nat_lit 1023) s v7 jj) m s fun v8 m s => jnD true v6 (fun jj => fad n0 (r q1) fun v => jj v m s) m s fun v9 m s => jnD true v6 (fun jj => dL z m (nat_lit 4096) (nat_lit 2559) s v9 jj) m s fun v10 m s => jnD true v6 (fun jj => dw3 m (nat_lit 8192) (nat_lit 6655) s (fun s q => c (nat_lit 363) [v10] s q) jj) m s fun v11 m s => jnD true v6 (fun jj => binK .leq v8 v11 fun v => jj v m s) m s fun v12 m s => pck v6 v12 ff fun v13 => jnD true v13 (fun jj => fad n2 (r q1) fun v => jj v m s) m s fun v14 m s => jnD true v13 (fun jj => dL z m (nat_lit 262144) (nat_lit 262143) s v14 jj) m s fun v15 m s => jnD true v13 (fun jj => binK .gtr v15 U0 fun v => jj v m s) m s fun v16 m s => pck v13 v16 ff fun v17 => jnD true v17 (fun jj => fad n2 (r q1) fun v => jj v m s) m s fun v18 m s => jnD true v17 (fun jj => dL z m (nat_lit 8388608) (nat_lit 8388607) s v18 jj) m s fun v19 m s => jnD true v17 (fun jj => fad n0 (r q1) fun v => jj v m s) m s fun v20 m s => jnD true v17 (fun jj => dL z m (nat_lit 33554432) (nat_lit 20971519) s v20 jj) m s fun v21 m s => jnD true v17 (fun jj => dw3 m (nat_lit 67108864) (nat_lit 54525951) s (fun s q => c n85 [v21] s q) jj) m s fun v22 m s => jnD true v17 (fun jj => binK .lss v19 v22 fun v => jj v m s) m s fun v23 m s => pck v17 v23 ff fun v24 => K [v24] s) s.next mk0)
 .ret)), [(.tmp q2)], [q0], [q3, q4, q5, q6, q7, q8, q9, q10, q11, q12, q13, q14, q15, q16, q17, q18, q19, q20, q21, q22, q23, q24, q25, q26, q27, q28, q29, q30, q31]⟩
/- attestor/code.greatest -/
noncomputable def cf363 : HF := ⟨
(.seq (.reg [q2] fun c r s K => K [I0] s)
 (.seq (.reg [q2] fun c r s K => c n119 [(r q0)] s fun v0 s => h_op4_minmax false [(.c v0), (.c I18)] c r s fun v1 s => K [v1] s)
 .ret)), [(.tmp q2)], [q0], [q3, q4, q5]⟩
/- attestor/field.Twos -/
noncomputable def cf119 : HF := ⟨
(.seq (.reg [q2] fun c r s K => K [I0] s)
 (.seq (.reg [q2] fun c r s K => c (nat_lit 180) [(r q0)] s fun v0 s => fld n2 n1 false v0 fun v1 => K [v1] s)
 .ret)), [(.tmp q2)], [q0], [q3, q4, q5]⟩
/- attestor/tree.Path -/
noncomputable def cf276 : HF := ⟨
(.seq (.reg [q2, q4, q5] fun c r s K => bxx s (r q0) fun v0 s => K [v0, (.sc zn), I0] s)
 (.seq (.seq (.reg [q6] fun c r s K => lN s n4 (r q2) fun v0 => c (nat_lit 366) [v0, (r q1)] s fun v1 s => K [v1] s)
 (.seq (.reg [q14] fun c r s K => binK .neq (r q6) I0 fun v0 => K [v0] s)
 (.cond (.t q14) (.seq (.reg [q4, q5] fun c r s K => K [(.sc zn), (r q6)] s)
 .ret)
 .skip)))
 (.seq (.reg [q7] fun c r s K => K [(.sc zn)] s)
 (.seq (.seq (.reg [q22, q23, q24] fun c r s K => fad n3 (r q2) fun v0 => ld s v0 fun v1 => fad n3 (r q2) fun v2 => ld s v2 fun v3 => lnS v3 fun v4 => binK .sub v4 I1 fun v5 => h_op3_sliceS n1 (.c v1) none (some (.c v5)) none c r s fun v6 s => lnS v6 fun v7 => K [v6, v7, I0] s)
 (.block n0 (.loop (.seq (.reg [q25] fun c r s K => binK .lss (r q24) (r q23) fun v0 => K [v0] s)
 (.seq (.cond (.t q25) .skip
 (.exit n0))
 (.seq (.block n1 (.seq (.reg [q9] fun c r s K => ixs n1 (r q22) (r q24) fun v0 => ld s v0 fun v1 => K [v1] s)
 (.seq (.reg [q7] fun c r s K => binK .xor (r q1) I1 fun v0 => ixs n2 (r q9) v0 fun v1 => lN s n2 v1 fun v2 => h_op3_buildS n1 n2 [zu, zu] [(n0, n2, (.c v2))] c r s fun v3 s => xA n2 n16 (r q7) v3 c r s fun v4 s => K [v4] s)
 (.reg [q1] fun c r s K => xS false (r q1) U1 c r s fun v0 s => K [v0] s))))
 (.reg [q24] fun c r s K => binK .add (r q24) I1 fun v0 => K [v0] s)))))))
 (.seq (.reg [q4, q5] fun c r s K => K [(r q7), I0] s)
 .ret))))), [(.tmp q4), (.tmp q5)], [q0, q1], [q10, q11, q12, q13, q15, q16, q17, q18, q19, q20, q21, q26, q27, q28, q29, q30, q31, q32, q33, q34, q35, q36, q37, q38, q39]⟩
/- attestor/tree.place -/
noncomputable def cf366 : HF := ⟨
(.seq (.reg [q2, q4] fun c r s K => bxx s (r q0) fun v0 s => K [v0, I0] s)
 (.seq (.block n0 (.seq (.reg [q5] fun c r s K => lN s n4 (r q2) fun v0 => c (nat_lit 221) [v0] s fun v1 s => nott v1 fun v2 => K [v2] s)
 (.cond (.t q5) (.seq (.reg [q4] fun c r s K => K [I1] s)
 .ret)
 (.seq (.reg [q9] fun c r s K => binK .lss (r q1) I0 fun v0 => mf v0 (r q1) s fun v1 s => jf v0 (fad n3 (r q2)) s fun v2 s => jf v0 (ld s v2) s fun v3 s => jf v0 (ixs n1 v3 I0) s fun v4 s => jf v0 (ld s v4) s fun v5 s => jf v0 (lnS v5) s fun v6 s => jf v0 (binK .geq v1 v6) s fun v7 s => pck v0 tt v7 fun v8 => K [v8] s)
 (.cond (.t q9) (.seq (.reg [q4] fun c r s K => K [I2] s)
 .ret)
 .skip)))))
 (.seq (.reg [q4] fun c r s K => K [I0] s)
 .ret))), [(.tmp q4)], [q0, q1], [q6, q7, q8, q10, q11, q12, q13, q14, q15, q16, q17, q18, q19, q20]⟩
/- attestor/tree.Valid -/
noncomputable def cf221 : HF := ⟨
(.seq (.reg [q1, q2] fun c r s K => bxx s (r q0) fun v0 s => K [v0, ff] s)
 (.seq (.seq (.reg [q42] fun c r s K => fad n0 (r q1) fun v0 => ld s v0 fun v1 => c (nat_lit 181) [v1] s fun v2 s => nott v2 fun v3 => jf v3 (fad n1 (r q1)) s fun v4 s => jf v3 (ld s v4) s fun v5 s => jf v3 (binK .lss v5 I0) s fun v6 s => pck v3 tt v6 fun v7 => jf v7 (fad n1 (r q1)) s fun v8 s => jf v7 (ld s v8) s fun v9 s => jf v7 (binK .gtr v9 I18) s fun v10 s => pck v7 tt v10 fun v11 => jf v11 (fad n2 (r q1)) s fun v12 s => jf v11 (ld s v12) s fun v13 s => jf v11 (binK .lss v13 I0) s fun v14 s => pck v11 tt v14 fun v15 => jf v15 (fad n2 (r q1)) s fun v16 s => jf v15 (ld s v16) s fun v17 s => jf v15 (fad n1 (r q1)) s fun v18 s => jf v15 (ld s v18) s fun v19 s => jf v15 (binK .gtr v17 v19) s fun v20 s => pck v15 tt v20 fun v21 => jf v21 (fad n3 (r q1)) s fun v22 s => jf v21 (ld s v22) s fun v23 s => jf v21 (lnS v23) s fun v24 s => jf v21 (fad n1 (r q1)) s fun v25 s => jf v21 (ld s v25) s fun v26 s => jf v21 (fad n2 (r q1)) s fun v27 s => jf v21 (ld s v27) s fun v28 s => jf v21 (binK .sub v26 v28) s fun v29 s => jf v21 (binK .add v29 I1) s fun v30 s => jf v21 (binK .neq v24 v30) s fun v31 s => pck v21 tt v31 fun v32 => K [v32] s)
 (.cond (.t q42) (.seq (.reg [q2] fun c r s K => K [ff] s)
 .ret)
 .skip))
 (.seq (.seq (.reg [q44, q45, q46] fun c r s K => fad n3 (r q1) fun v0 => ld s v0 fun v1 => lnS v1 fun v2 => K [v1, v2, I0] s)
 (.block n0 (.loop (.seq (.reg [q47] fun c r s K => binK .lss (r q46) (r q45) fun v0 => K [v0] s)
 (.seq (.cond (.t q47) .skip
 (.exit n0))
 (.seq (.block n1 (.seq (.reg [q3, q4] fun c r s K => ixs n1 (r q44) (r q46) fun v0 => ld s v0 fun v1 => K [(r q46), v1] s)
 (.seq (.reg [q65] fun c r s K => lnS (r q4) fun v0 => fad n1 (r q1) fun v1 => ld s v1 fun v2 => binK .sub v2 (r q3) fun v3 => xS true I1 v3 c r s fun v4 s => binK .neq v0 v4 fun v5 => jf v5 (fad n0 (r q1)) s fun v6 s => jf v5 (ld s v6) s fun v7 s => mf v5 (r q4) s fun v8 s => jn false v5 (fun j => c (nat_lit 212) [v7, v8] s j) s fun v9 s => jf v5 (nott v9) s fun v10 s => pck v5 tt v10 fun v11 => K [v11] s)
 (.cond (.t q65) (.seq (.reg [q2] fun c r s K => K [ff] s)
 .ret)
 .skip))))
 (.reg [q46] fun c r s K => binK .add (r q46) I1 fun v0 => K [v0] s)))))))
 (.seq (.reg [q2] fun c r s K => K [tt] s)
 .ret)))), [(.tmp q2)], [q0], [q5, q6, q7, q8, q9, q10, q11, q12, q13, q14, q15, q16, q17, q18, q19, q20, q21, q22, q23, q24, q25, q26, q27, q28, q29, q30, q31, q32, q33, q34, q35, q36, q37, q38, q39, q40, q41, q43, q48, q49, q50, q51, q52, q53, q54, q55, q56, q57, q58, q59, q60, q61, q62, q63, q64, q66]⟩
/- attestor/tree.proper -/
noncomputable def cf212 : HF := ⟨
(.seq (.reg [q4] fun c r s K => K [ff] s)
 (.seq (.reg [q5] fun c r s K => c n85 [(r q0)] s fun v0 s => alc s [zu] fun v1 s => sto s n1 v1 v0 fun s => K [v1] s)
 (.seq (.reg [q4] fun c r s K => h_op4_makeFunc (nat_lit 341) [(.c (r q5))] c r s fun v0 s => c (nat_lit 179) [(r q1), v0] s fun v1 s => nott v1 fun v2 => K [v2] s)
 .ret))), [(.tmp q4)], [q0, q1], [q6, q7, q8, q9, q10, q11]⟩
/- slices.ContainsFunc[[]attestor/api.Digest,attestor/api.Digest] -/
noncomputable def cf179 : HF := ⟨
(.seq (.reg [q4] fun c r s K => K [ff] s)
 (.seq (.reg [q4] fun c r s K => c (nat_lit 303) [(r q0), (r q1)] s fun v0 s => binK .geq v0 I0 fun v1 => K [v1] s)
 .ret)), [(.tmp q4)], [q0, q1], [q5, q6, q7, q8]⟩
/- slices.IndexFunc[[]attestor/api.Digest,attestor/api.Digest] -/
noncomputable def cf303 : HF := ⟨
(.seq (.reg [q4] fun c r s K => K [I0] s)
 (.seq (.seq (.reg [q7, q8] fun c r s K => lnS (r q0) fun v0 => K [v0, I0] s)
 (.block n0 (.loop (.seq (.reg [q9] fun c r s K => binK .lss (r q8) (r q7) fun v0 => K [v0] s)
 (.seq (.cond (.t q9) .skip
 (.exit n0))
 (.seq (.block n1 (.seq (.reg [q5] fun c r s K => K [(r q8)] s)
 (.seq (.reg [q16] fun c r s K => ixs n2 (r q0) (r q5) fun v0 => lN s n2 v0 fun v1 => h_op4_callV (.c (r q1)) [(.c v1)] c r s fun v2 s => K [v2] s)
 (.cond (.t q16) (.seq (.reg [q4] fun c r s K => K [(r q5)] s)
 .ret)
 .skip))))
 (.reg [q8] fun c r s K => binK .add (r q8) I1 fun v0 => K [v0] s)))))))
 (.seq (.reg [q4] fun c r s K => (fun v0 => K [v0] s) (.sc (.int .i64 (.negSucc n0))))
 .ret))), [(.tmp q4)], [q0, q1], [q6, q10, q11, q12, q13, q14, q15, q17, q18]⟩
/- attestor/tree.proper$1 -/
noncomputable def cf341 : HF := ⟨
(.seq (.reg [q2, q3] fun c r s K => bxx s (r q0) fun v0 s => K [v0, ff] s)
 (.seq (.reg [q3] fun c r s K => ixA n2 n1 (r q2) I0 fun v0 => ld s v0 fun v1 => ld s (r q1) fun v2 => binK .geq v1 v2 fun v3 => jf v3 (ixA n2 n1 (r q2) I1) s fun v4 s => jf v3 (ld s v4) s fun v5 s => jf v3 (ld s (r q1)) s fun v6 s => jf v3 (binK .geq v5 v6) s fun v7 s => pck v3 tt v7 fun v8 => K [v8] s)
 .ret)), [(.tmp q3)], [q0, q1], [q4, q5, q6, q7, q8, q9, q10, q11, q12, q13]⟩
/- (attestor/lowdegree.round).tree -/
noncomputable def cf144 : HF := ⟨
(.seq (.reg [q2, q4, q5] fun c r s K => bxx s (r q0) fun v0 s => alc s [zi, zi, zi, zn] fun v1 s => K [v0, v1, I0] s)
 (.seq (.reg [q6] fun c r s K => fad n1 (r q2) fun v0 => ld s v0 fun v1 => xM n2 n16 [zu, zu] v1 v1 c r s fun v2 s => K [v2] s)
 (.seq (.seq (.reg [q13, q14] fun c r s K => lnS (r q6) fun v0 => K [v0, I0] s)
 (.block n0 (.loop (.seq (.reg [q15] fun c r s K => binK .lss (r q14) (r q13) fun v0 => K [v0] s)
 (.seq (.cond (.t q15) .skip
 (.exit n0))
 (.seq (.block n1 (.seq (.reg [q7] fun c r s K => K [(r q14)] s)
 (.seq (.reg [q8] fun c r s K => fad n2 (r q2) fun v0 => lN s n3 v0 fun v1 => c (nat_lit 273) [v1, (r q1), (r q7)] s fun v2 s => alc s [zu, zu, zu, zu, zu, zu, zu, zu] fun v3 s => sto s n8 v3 v2 fun s => K [v3] s)
 (.drw [] fun c r s K => (fun z m => fad n2 (r q2) fun v0 => fad n0 v0 fun v1 => dL z m n16 n12 s v1 fun v2 m s => dw2 z m n32 n0 (r q8) (fun q => h_op3_sliceA n8 n1 (.c (r q8)) none none none c r s q) fun v3 m s => dw3 m n64 n60 s (fun s q => c n89 [v2, v3] s q) fun v4 m s => ixs n2 (r q6) (r q7) fun v5 => dS z m (nat_lit 256) (nat_lit 255) s n2 v5 v4 fun _ m s => K [] s) s.next mk0))))
 (.reg [q14] fun c r s K => binK .add (r q14) I1 fun v0 => K [v0] s)))))))
 (.seq (.reg [q5] fun c r s K => fad n2 (r q2) fun v0 => fad n0 v0 fun v1 => ld s v1 fun v2 => fad n5 (r q2) fun v3 => ld s v3 fun v4 => c n111 [v2, (r q6), v4] s fun v5 s => xE n0 v5 c r s fun v6 s => xE n1 v5 c r s fun v7 s => sto s n4 (r q4) v6 fun s => K [v7] s)
 .ret)))), [(.cellN n4 q4), (.tmp q5)], [q0, q1], [q9, q10, q11, q12, q16, q17, q18, q19, q20, q21, q22, q23, q24, q25, q26, q27, q28, q29, q30, q31, q32, q33, q34, q35, q36, q37, q38, q39]⟩
/- attestor/tree.Build -/
noncomputable def cf111 : HF := ⟨
(.seq (.reg [q6, q7] fun c r s K => alc s [zi, zi, zi, zn] fun v0 s => K [v0, I0] s)
 (.seq (.reg [q8] fun c r s K => lnS (r q1) fun v0 => c (nat_lit 211) [v0] s fun v1 s => K [v1] s)
 (.seq (.block n0 (.seq (.reg [q14] fun c r s K => c (nat_lit 181) [(r q0)] s fun v0 s => nott v0 fun v1 => mf v1 (r q8) s fun v2 s => jf v1 (binK .lss v2 I0) s fun v3 s => pck v1 tt v3 fun v4 => mf v4 (r q2) s fun v5 s => jf v4 (binK .lss v5 I0) s fun v6 s => pck v4 tt v6 fun v7 => mf v7 (r q2) s fun v8 s => mf v7 (r q8) s fun v9 s => jf v7 (binK .gtr v8 v9) s fun v10 s => pck v7 tt v10 fun v11 => K [v11] s)
 (.cond (.t q14) (.seq (.reg [q7] fun c r s K => h_op3_build [zi, zi, zi, zn] [] c r s fun v0 s => sto s n4 (r q6) v0 fun s => K [I1] s)
 .ret)
 (.seq (.reg [q32] fun c r s K => c (nat_lit 212) [(r q0), (r q1)] s fun v0 s => nott v0 fun v1 => K [v1] s)
 (.cond (.t q32) (.seq (.reg [q7] fun c r s K => h_op3_build [zi, zi, zi, zn] [] c r s fun v0 s => sto s n4 (r q6) v0 fun s => K [I2] s)
 .ret)
 .skip)))))
 (.seq (.reg [q9] fun c r s K => h_op3_build [zi, zi, zi, zn] [(n0, n1, (.c (r q0))), (n1, n1, (.c (r q8))), (n2, n1, (.c (r q2)))] c r s fun v0 s => alc s [zi, zi, zi, zn] fun v1 s => sto s n4 v1 v0 fun s => K [v1] s)
 (.seq (.seq (.reg [q46] fun c r s K => xS true I1 (r q2) c r s fun v0 s => c (nat_lit 213) [(r q0), (r q1), v0] s fun v1 s => K [v1] s)
 (.block n1 (.rng n111 n0 (.t q46) [q47] (.reg [q10] fun c r s K => K [(r q47)] s)
 (.block n2 (.reg [] fun c r s K => fad n3 (r q9) fun v0 => ld s v0 fun v1 => h_op3_buildS n1 n1 [zn] [(n0, n1, (.c (r q10)))] c r s fun v2 s => xA n1 n24 v1 v2 c r s fun v3 s => fad n3 (r q9) fun v4 => sto s n1 v4 v3 fun s => K [] s)))))
 (.seq (.reg [q7] fun c r s K => lN s n4 (r q9) fun v0 => sto s n4 (r q6) v0 fun s => K [I0] s)
 .ret)))))), [(.cellN n4 q6), (.tmp q7)], [q0, q1, q2], [q11, q12, q13, q15, q16, q17, q18, q19, q20, q21, q22, q23, q24, q25, q26, q27, q28, q29, q30, q31, q33, q34, q35, q36, q37, q38, q39, q40, q41, q42, q43, q44, q45, q48, q49, q50, q51, q52, q53, q54]⟩
/- attestor/tree.rising -/
noncomputable def cf213 : HF := ⟨
(.seq (.reg [q3, q4, q5, q6] fun c r s K => bxx s (r q0) fun v0 s => bxx s (r q1) fun v1 s => bxx s (r q2) fun v2 s => K [v0, v1, v2, (.sc (.lit .nilFunc))] s)
 (.seq (.reg [q6] fun c r s K => h_op4_makeFunc (nat_lit 342) [(.c (r q4)), (.c (r q5)), (.c (r q3))] c r s fun v0 s => K [v0] s)
 .ret)), [(.tmp q6)], [q0, q1, q2], [q7]⟩
/- attestor/tree.rising$1 -/
noncomputable def cf342 : HF := ⟨
(.seq (.reg [q5] fun c r s K => ld s (r q1) fun v0 => c (nat_lit 222) [v0] s fun v1 s => K [v1] s)
 (.block n0 (.loop (.seq (.seq (.reg [q18] fun c r s K => h_op4_callV (.c (r q0)) [(.c (r q5))] c r s fun v0 s => mt v0 (r q5) s fun v1 s => jt v0 (lnS v1) s fun v2 s => jt v0 (ld s (r q2)) s fun v3 s => jt v0 (binK .gtr v2 v3) s fun v4 s => pck v0 v4 ff fun v5 => K [v5] s)
 (.cond (.t q18) .skip
 (.exit n0)))
 (.block n1 (.seq (.reg [q6] fun c r s K => lnS (r q5) fun v0 => binK .quo v0 I2 fun v1 => xM n2 n16 [zu, zu] v1 v1 c r s fun v2 s => K [v2] s)
 (.seq (.seq (.reg [q24, q25] fun c r s K => lnS (r q6) fun v0 => K [v0, I0] s)
 (.block n2 (.loop (.seq (.reg [q26] fun c r s K => binK .lss (r q25) (r q24) fun v0 => K [v0] s)
 (.seq (.cond (.t q26) .skip
 (.exit n2))
 (.seq (.block n3 (.seq (.reg [q7] fun c r s K => K [(r q25)] s)
 (.drw [] fun c r s K => (fun z m => dL z m n4 n0 s (r q3) fun v0 m s => binK .mul I2 (r q7) fun v1 => ixs n2 (r q5) v1 fun v2 => dN z m n128 n120 s n2 v2 fun v3 m s => binK .mul I2 (r q7) fun v4 => binK .add v4 I1 fun v5 => ixs n2 (r q5) v5 fun v6 => dN z m (nat_lit 8192) (nat_lit 7936) s n2 v6 fun v7 m s => dw3 m (nat_lit 16384) (nat_lit 16380) s (fun s q => c (nat_lit 343) [v0, v3, v7] s q) fun v8 m s => ixs n2 (r q6) (r q7) fun v9 => dS z m (nat_lit 65536) (nat_lit 65535) s n2 v9 v8 fun _ m s => K [] s) s.next mk0)))
 (.reg [q25] fun c r s K => binK .add (r q25) I1 fun v0 => K [v0] s)))))))
 (.reg [q5] fun c r s K => K [(r q6)] s)))))))), [], [q0, q1, q2, q3], [q8, q9, q10, q11, q12, q13, q14, q15, q16, q17, q19, q20, q21, q22, q23, q27, q28, q29, q30, q31, q32, q33, q34, q35, q36, q37, q38, q39, q40, q41, q42, q43, q44, q45]⟩
/- attestor/sponge.Node -/
noncomputable def cf343 : HF := ⟨
(.seq (.reg [q4, q5, q6] fun c r s K => bxx s (r q1) fun v0 s => bxx s (r q2) fun v1 s => alc s [zu, zu] fun v2 s => K [v0, v1, v2] s)
 (.seq (.seq (.reg [q12] fun c r s K => c (nat_lit 181) [(r q0)] s fun v0 s => nott v0 fun v1 => K [v1] s)
 (.cond (.t q12) (.seq (.reg [] fun c r s K => h_op3_build [zu, zu] [] c r s fun v0 s => sto s n2 (r q6) v0 fun s => K [] s)
 .ret)
 .skip))
 (.seq (.reg [q7] fun c r s K => c (nat_lit 184) [(r q0)] s fun v0 s => alc s [zu, zu, (.bool false)] fun v1 s => sto s n3 v1 v0 fun s => K [v1] s)
 (.seq (.reg [q8] fun c r s K => lN s n3 (r q7) fun v0 => ixA n2 n1 (r q4) I0 fun v1 => ld s v1 fun v2 => ixA n2 n1 (r q4) I1 fun v3 => ld s v3 fun v4 => ixA n2 n1 (r q5) I0 fun v5 => ld s v5 fun v6 => ixA n2 n1 (r q5) I1 fun v7 => ld s v7 fun v8 => h_op3_build [zu, zu, zu, zu] [(n0, n1, (.c v2)), (n1, n1, (.c v4)), (n2, n1, (.c v6)), (n3, n1, (.c v8))] c r s fun v9 s => c (nat_lit 377) [v0, v9] s fun v10 s => alc s [zu, zu, zu, zu] fun v11 s => sto s n4 v11 v10 fun s => K [v11] s)
 (.seq (.reg [q9] fun c r s K => lN s n3 (r q7) fun v0 => lN s n4 (r q8) fun v1 => c (nat_lit 185) [v0, v1] s fun v2 s => alc s [zu, zu, zu, zu] fun v3 s => sto s n4 v3 v2 fun s => K [v3] s)
 (.seq (.drw [] fun c r s K => (fun z m => ixA n4 n1 (r q9) I0 fun v0 => dL z m n2 n1 s v0 fun v1 m s => ixA n4 n1 (r q8) I0 fun v2 => dL z m n8 n4 s v2 fun v3 m s => binK .add v1 v3 fun v4 => fad n0 (r q7) fun v5 => dL z m n64 n32 s v5 fun v6 m s => binK .rem v4 v6 fun v7 => ixA n4 n1 (r q9) I1 fun v8 => dL z m (nat_lit 512) (nat_lit 256) s v8 fun v9 m s => ixA n4 n1 (r q8) I1 fun v10 => dL z m (nat_lit 2048) (nat_lit 1024) s v10 fun v11 m s => binK .add v9 v11 fun v12 => fad n0 (r q7) fun v13 => dL z m (nat_lit 16384) (nat_lit 8192) s v13 fun v14 m s => binK .rem v12 v14 fun v15 => h_op3_build [zu, zu] [(n0, n1, (.c v7)), (n1, n1, (.c v15))] c r s fun v16 s => dS z m (nat_lit 131072) (nat_lit 131071) s n2 (r q6) v16 fun _ m s => K [] s) s.next mk0)
 .ret)))))), [(.cellN n2 q6)], [q0, q1, q2], [q10, q11, q13, q14, q15, q16, q17, q18, q19, q20, q21, q22, q23, q24, q25, q26, q27, q28, q29, q30, q31, q32, q33, q34, q35, q36, q37, q38, q39, q40, q41, q42, q43, q44, q45, q46]⟩
/- (attestor/sponge.mixer).perm -/
noncomputable def cf185 : HF := ⟨
(.seq (.reg [q2, q3, q4] fun c r s K => bxx s (r q0) fun v0 s => bxx s (r q1) fun v1 s => alc s [zu, zu, zu, zu] fun v2 s => K [v0, v1, v2] s)
 (.seq (.reg [q5] fun c r s K => K [U1] s)
 (.seq (.seq (.reg [q6] fun c r s K => K [I0] s)
 (.block n0 (.loop (.seq (.reg [q7] fun c r s K => binK .lss (r q6) I8 fun v0 => K [v0] s)
 (.seq (.cond (.t q7) .skip
 (.exit n0))
 (.seq (.block n1 (.reg [q5] fun c r s K => lN s n3 (r q2) fun v0 => lN s n4 (r q3) fun v1 => c (nat_lit 306) [v0, (r q5), v1] s fun v2 s => xE n0 v2 c r s fun v3 s => xE n1 v2 c r s fun v4 s => sto s n4 (r q3) v4 fun s => K [v3] s))
 (.reg [q6] fun c r s K => binK .add (r q6) I1 fun v0 => K [v0] s)))))))
 (.seq (.reg [] fun c r s K => lN s n4 (r q3) fun v0 => sto s n4 (r q4) v0 fun s => K [] s)
 .ret)))), [(.cellN n4 q4)], [q0, q1], [q9, q10, q11, q12, q8, q13, q14, q15, q16]⟩
/- (attestor/sponge.mixer).round -/
noncomputable def cf306 : HF := ⟨
(.seq (.reg [q3, q5, q6, q7] fun c r s K => bxx s (r q0) fun v0 s => bxx s (r q2) fun v1 s => alc s [zu, zu, zu, zu] fun v2 s => K [v0, v1, U0, v2] s)
 (.seq (.seq (.reg [q10] fun c r s K => K [I0] s)
 (.block n0 (.loop (.seq (.reg [q11] fun c r s K => binK .lss (r q10) I4 fun v0 => K [v0] s)
 (.seq (.cond (.t q11) .skip
 (.exit n0))
 (.seq (.block n1 (.seq (.reg [q8] fun c r s K => K [(r q10)] s)
 (.seq (.reg [q1] fun c r s K => fad n1 (r q3) fun v0 => ld s v0 fun v1 => binK .mul (r q1) v1 fun v2 => fad n0 (r q3) fun v3 => ld s v3 fun v4 => binK .rem v2 v4 fun v5 => K [v5] s)
 (.drw [] fun c r s K => (fun z m => dN z m n2 n0 s n3 (r q3) fun v0 m s => ixA n4 n1 (r q5) (r q8) fun v1 => dL z m n16 n12 s v1 fun v2 m s => binK .add v2 (r q1) fun v3 => binK .add v3 U7 fun v4 => fad n0 (r q3) fun v5 => dL z m (nat_lit 512) (nat_lit 256) s v5 fun v6 m s => binK .rem v4 v6 fun v7 => dw3 m (nat_lit 2048) (nat_lit 2046) s (fun s q => c (nat_lit 378) [v0, v7] s q) fun v8 m s => ixA n4 n1 (r q5) (r q8) fun v9 => dS z m (nat_lit 8192) (nat_lit 8191) s n1 v9 v8 fun _ m s => K [] s) s.next mk0))))
 (.reg [q10] fun c r s K => binK .add (r q10) I1 fun v0 => K [v0] s)))))))
 (.seq (.reg [q9] fun c r s K => ixA n4 n1 (r q5) I0 fun v0 => ld s v0 fun v1 => ixA n4 n1 (r q5) I1 fun v2 => ld s v2 fun v3 => binK .add v1 v3 fun v4 => ixA n4 n1 (r q5) I2 fun v5 => ld s v5 fun v6 => binK .add v4 v6 fun v7 => ixA n4 n1 (r q5) I3 fun v8 => ld s v8 fun v9 => binK .add v7 v9 fun v10 => K [v10] s)
 (.seq (.drw [q6] fun c r s K => (fun z m => ixA n4 n1 (r q5) I0 fun v0 => dL z m n8 n4 s v0 fun v1 m s => binK .add (r q9) v1 fun v2 => ixA n4 n1 (r q5) I1 fun v3 => dL z m n64 n32 s v3 fun v4 m s => binK .mul U2 v4 fun v5 => binK .add v2 v5 fun v6 => fad n0 (r q3) fun v7 => dL z m (nat_lit 1024) (nat_lit 512) s v7 fun v8 m s => binK .rem v6 v8 fun v9 => ixA n4 n1 (r q5) I1 fun v10 => dL z m (nat_lit 16384) (nat_lit 8192) s v10 fun v11 m s => binK .add (r q9) v11 fun v12 => ixA n4 n1 (r q5) I2 fun v13 => dL z m (nat_lit 131072) (nat_lit 65536) s v13 fun v14 m s => binK .mul U2 v14 fun v15 => binK .add v12 v15 fun v16 => fad n0 (r q3) fun v17 => dL z m (nat_lit 2097152) (nat_lit 1048576) s v17 fun v18 m s => binK .rem v16 v18 fun v19 => ixA n4 n1 (r q5) I2 fun v20 => dL z m (nat_lit 33554432) (nat_lit 16777216) s v20 fun v21 m s => binK .add (r q9) v21 fun v22 => ixA n4 n1 (r q5) I3 fun v23 => dL z m (nat_lit 268435456) (nat_lit 134217728) s v23 fun v24 m s => binK .mul U2 v24 fun v25 => binK .add v22 v25 fun v26 => fad n0 (r q3) fun v27 => dL z m (nat_lit 4294967296) (nat_lit 2147483648) s v27 fun v28 m s => binK .rem v26 v28 fun v29 => ixA n4 n1 (r q5) I3 fun v30 => dL z m (nat_lit 68719476736) (nat_lit 34359738368) s v30 fun v31 m s => binK .add (r q9) v31 fun v32 => ixA n4 n1 (r q5) I0 fun v33 => dL z m (nat_lit 549755813888) (nat_lit 274877906944) s v33 fun v34 m s => binK .mul U2 v34 fun v35 => binK .add v32 v35 fun v36 => fad n0 (r q3) fun v37 => dL z m (nat_lit 8796093022208) (nat_lit 4398046511104) s v37 fun v38 m s => binK .rem v36 v38 fun v39 => h_op3_build [zu, zu, zu, zu] [(n0, n1, (.c v9)), (n1, n1, (.c v19)), (n2, n1, (.c v29)), (n3, n1, (.c v39))] c r s fun v40 s => dS z m (nat_lit 140737488355328) (nat_lit 140737488355327) s n4 (r q7) v40 fun _ m s => K [(r q1)] s) s.next mk0)
 .ret)))), [(.tmp q6), (.cellN n4 q7)], [q0, q1, q2], [q12, q13, q14, q15, q16, q17, q18, q19, q20, q21, q22, q23, q24, q25, q26, q27, q28, q29, q30, q31, q32, q33, q34, q35, q36, q37, q38, q39, q40, q41, q42, q43, q44, q45, q46, q47, q48, q49, q50, q51, q52, q53, q54, q55, q56, q57, q58, q59, q60, q61, q62, q63, q64, q65, q66, q67, q68, q69, q70, q71, q72, q73, q74, q75, q76, q77, q78, q79, q80, q81, q82, q83, q84, q85, q86, q87, q88, q89, q90]⟩
/- (attestor/sponge.mixer).power -/
noncomputable def cf378 : HF := ⟨
(.seq (.reg [q2, q4] fun c r s K => bxx s (r q0) fun v0 s => K [v0, U0] s)
 (.seq (.reg [q5] fun c r s K => binK .mul (r q1) (r q1) fun v0 => fad n0 (r q2) fun v1 => ld s v1 fun v2 => binK .rem v0 v2 fun v3 => K [v3] s)
 (.seq (.seq (.reg [q13] fun c r s K => fad n2 (r q2) fun v0 => ld s v0 fun v1 => K [v1] s)
 (.cond (.t q13) (.reg [q5] fun c r s K => binK .mul (r q5) (r q5) fun v0 => fad n0 (r q2) fun v1 => ld s v1 fun v2 => binK .rem v0 v2 fun v3 => K [v3] s)
 .skip))
 (.seq (.reg [q4] fun c r s K => binK .mul (r q5) (r q1) fun v0 => fad n0 (r q2) fun v1 => ld s v1 fun v2 => binK .rem v0 v2 fun v3 => K [v3] s)
 .ret)))), [(.tmp q4)], [q0, q1], [q6, q7, q8, q9, q10, q11, q12, q14, q15, q16, q17, q18, q19, q20, q21, q22, q23, q24, q25]⟩
/- (attestor/sponge.mixer).reduced -/
noncomputable def cf377 : HF := ⟨
(.seq (.reg [q2, q3, q4] fun c r s K => bxx s (r q0) fun v0 s => bxx s (r q1) fun v1 s => alc s [zu, zu, zu, zu] fun v2 s => K [v0, v1, v2] s)
 (.seq (.seq (.reg [q6] fun c r s K => K [I0] s)
 (.block n0 (.loop (.seq (.reg [q7] fun c r s K => binK .lss (r q6) I4 fun v0 => K [v0] s)
 (.seq (.cond (.t q7) .skip
 (.exit n0))
 (.seq (.block n1 (.seq (.reg [q5] fun c r s K => K [(r q6)] s)
 (.drw [] fun c r s K => (fun z m => ixA n4 n1 (r q3) (r q5) fun v0 => dL z m n4 n3 s v0 fun v1 m s => fad n0 (r q2) fun v2 => dL z m n16 n8 s v2 fun v3 m s => binK .rem v1 v3 fun v4 => ixA n4 n1 (r q3) (r q5) fun v5 => dS z m n128 n127 s n1 v5 v4 fun _ m s => K [] s) s.next mk0)))
 (.reg [q6] fun c r s K => binK .add (r q6) I1 fun v0 => K [v0] s)))))))
 (.seq (.reg [] fun c r s K => lN s n4 (r q3) fun v0 => sto s n4 (r q4) v0 fun s => K [] s)
 .ret))), [(.cellN n4 q4)], [q0, q1], [q8, q9, q10, q11, q12, q13, q14, q15, q16, q17]⟩
/- attestor/sponge.in -/
noncomputable def cf184 : HF := ⟨
(.seq (.reg [q2] fun c r s K => alc s [zu, zu, (.bool false)] fun v0 s => K [v0] s)
 (.seq (.reg [] fun c r s K => c n85 [(r q0)] s fun v0 s => c n95 [(r q0)] s fun v1 s => c (nat_lit 305) [(r q0)] s fun v2 s => binK .eql v2 I5 fun v3 => h_op3_build [zu, zu, (.bool false)] [(n0, n1, (.c v0)), (n1, n1, (.c v1)), (n2, n1, (.c v3))] c r s fun v4 s => sto s n3 (r q2) v4 fun s => K [] s)
 .ret)), [(.cellN n3 q2)], [q0], [q3, q4, q5, q6, q7, q8, q9, q10]⟩
/- attestor/field.Exponent -/
noncomputable def cf305 : HF := ⟨
(.seq (.reg [q2] fun c r s K => K [I0] s)
 (.seq (.reg [q2] fun c r s K => c (nat_lit 180) [(r q0)] s fun v0 s => fld n3 n1 false v0 fun v1 => K [v1] s)
 .ret)), [(.tmp q2)], [q0], [q3, q4, q5]⟩
/- attestor/field.Generator -/
noncomputable def cf95 : HF := ⟨
(.seq (.reg [q2] fun c r s K => K [U0] s)
 (.seq (.reg [q2] fun c r s K => c (nat_lit 180) [(r q0)] s fun v0 s => fld n1 n1 false v0 fun v1 => K [v1] s)
 .ret)), [(.tmp q2)], [q0], [q3, q4, q5]⟩
/- slices.Clone[[]attestor/api.Digest,attestor/api.Digest] -/
noncomputable def cf222 : HF := ⟨
(.seq (.reg [q2] fun c r s K => K [(.sc zn)] s)
 (.seq (.seq (.reg [q4] fun c r s K => h_op4_eqv .slice false (.c (r q0)) (.c (.sc zn)) c r s fun v0 s => K [v0] s)
 (.cond (.t q4) (.seq (.reg [q2] fun c r s K => K [(.sc zn)] s)
 .ret)
 .skip))
 (.seq (.reg [q2] fun c r s K => h_op3_buildS n0 n2 [] [] c r s fun v0 s => xA n2 n16 v0 (r q0) c r s fun v1 s => K [v1] s)
 .ret))), [(.tmp q2)], [q0], [q3, q5, q6, q7]⟩
/- attestor/tree.height -/
noncomputable def cf211 : HF := ⟨
(.seq (.reg [q2] fun c r s K => K [I0] s)
 (.seq (.seq (.reg [q15] fun c r s K => binK .lss (r q0) I1 fun v0 => mf v0 (r q0) s fun v1 s => jf v0 (binK .gtr v1 (i6 (nat_lit 262144))) s fun v2 s => pck v0 tt v2 fun v3 => mf v3 (r q0) s fun v4 s => mf v3 (r q0) s fun v5 s => jf v3 (binK .sub v5 I1) s fun v6 s => jf v3 (binK .and v4 v6) s fun v7 s => jf v3 (binK .neq v7 I0) s fun v8 s => pck v3 tt v8 fun v9 => K [v9] s)
 (.cond (.t q15) (.seq (.reg [q2] fun c r s K => (fun v0 => K [v0] s) (.sc (.int .i64 (.negSucc n0))))
 .ret)
 .skip))
 (.seq (.reg [q2] fun c r s K => cnv .u64 (r q0) fun v0 => c (nat_lit 340) [v0] s fun v1 s => K [v1] s)
 .ret))), [(.tmp q2)], [q0], [q3, q4, q5, q6, q7, q8, q9, q10, q11, q12, q13, q14, q16, q17, q18]⟩
/- math/bits.TrailingZeros -/
noncomputable def cf340 : HF := ⟨
(.seq (.reg [q2] fun c r s K => K [I0] s)
 (.seq (.cond (.c (.sc (.bool false))) (.seq (.reg [q2] fun c r s K => cnv .u32 (r q0) fun v0 => c (nat_lit 390) [v0] s fun v1 s => K [v1] s)
 .ret)
 .skip)
 (.seq (.reg [q2] fun c r s K => c (nat_lit 391) [(r q0)] s fun v0 s => K [v0] s)
 .ret))), [(.tmp q2)], [q0], [q3, q4, q5, q6, q7]⟩
/- math/bits.TrailingZeros64 -/
noncomputable def cf391 : HF := ⟨
(.seq (.reg [q2] fun c r s K => K [I0] s)
 (.seq (.seq (.reg [q4] fun c r s K => binK .eql (r q0) U0 fun v0 => K [v0] s)
 (.cond (.t q4) (.seq (.reg [q2] fun c r s K => K [(i6 n64)] s)
 .ret)
 .skip))
 (.seq (.reg [q2] fun c r s K => h_op4_neg (.c (r q0)) c r s fun v0 s => binK .and (r q0) v0 fun v1 => binK .mul v1 (u6 (nat_lit 285870213051353865)) fun v2 => xS false v2 (u6 n58) c r s fun v3 s => ixA n64 n1 (.sc (.ptr n2 n0)) v3 fun v4 => ld s v4 fun v5 => cnv .i64 v5 fun v6 => K [v6] s)
 .ret))), [(.tmp q2)], [q0], [q3, q5, q6, q7, q8, q9, q10, q11, q12, q13]⟩
/- math/bits.TrailingZeros32 -/
noncomputable def cf390 : HF := ⟨
(.seq (.reg [q2] fun c r s K => K [I0] s)
 (.seq (.seq (.reg [q4] fun c r s K => binK .eql (r q0) (.sc (.int .u32 (.ofNat n0))) fun v0 => K [v0] s)
 (.cond (.t q4) (.seq (.reg [q2] fun c r s K => K [I32] s)
 .ret)
 .skip))
 (.seq (.reg [q2] fun c r s K => h_op4_neg (.c (r q0)) c r s fun v0 s => binK .and (r q0) v0 fun v1 => binK .mul v1 (.sc (.int .u32 (.ofNat (nat_lit 125613361)))) fun v2 => xS false v2 U27 c r s fun v3 s => ixA n32 n1 (.sc (.ptr n1 n0)) v3 fun v4 => ld s v4 fun v5 => cnv .i64 v5 fun v6 => K [v6] s)
 .ret))), [(.tmp q2)], [q0], [q3, q5, q6, q7, q8, q9, q10, q11, q12, q13]⟩
/- attestor/sponge.Hash -/
noncomputable def cf89 : HF := ⟨
(.seq (.reg [q4] fun c r s K => alc s [zu, zu] fun v0 s => K [v0] s)
 (.seq (.seq (.reg [q12] fun c r s K => c (nat_lit 181) [(r q0)] s fun v0 s => nott v0 fun v1 => K [v1] s)
 (.cond (.t q12) (.seq (.reg [] fun c r s K => h_op3_build [zu, zu] [] c r s fun v0 s => sto s n2 (r q4) v0 fun s => K [] s)
 .ret)
 .skip))
 (.seq (.reg [q5] fun c r s K => c (nat_lit 184) [(r q0)] s fun v0 s => alc s [zu, zu, (.bool false)] fun v1 s => sto s n3 v1 v0 fun s => K [v1] s)
 (.seq (.reg [q6] fun c r s K => lnS (r q1) fun v0 => cnv .u64 v0 fun v1 => fad n0 (r q5) fun v2 => ld s v2 fun v3 => binK .rem v1 v3 fun v4 => h_op3_build [zu, zu, zu, zu] [(n2, n1, (.c v4))] c r s fun v5 s => alc s [zu, zu, zu, zu] fun v6 s => sto s n4 v6 v5 fun s => K [v6] s)
 (.seq (.seq (.reg [q25] fun c r s K => lnS (r q1) fun v0 => binK .eql v0 I0 fun v1 => K [v1] s)
 (.cond (.t q25) (.reg [] fun c r s K => lN s n3 (r q5) fun v0 => lN s n4 (r q6) fun v1 => c (nat_lit 185) [v0, v1] s fun v2 s => sto s n4 (r q6) v2 fun s => K [] s)
 .skip))
 (.seq (.block n0 (.loop (.seq (.seq (.reg [q31] fun c r s K => lnS (r q1) fun v0 => binK .gtr v0 I0 fun v1 => K [v1] s)
 (.cond (.t q31) .skip
 (.exit n0)))
 (.block n1 (.seq (.reg [q7] fun c r s K => lnS (r q1) fun v0 => h_op4_minmax false [(.c I2), (.c v0)] c r s fun v1 s => K [v1] s)
 (.seq (.seq (.reg [q37, q38, q39] fun c r s K => h_op3_sliceS n1 (.c (r q1)) none (some (.c (r q7))) none c r s fun v0 s => lnS v0 fun v1 => K [v0, v1, I0] s)
 (.block n2 (.loop (.seq (.reg [q40] fun c r s K => binK .lss (r q39) (r q38) fun v0 => K [v0] s)
 (.seq (.cond (.t q40) .skip
 (.exit n2))
 (.seq (.block n3 (.seq (.reg [q8, q9] fun c r s K => ixs n1 (r q37) (r q39) fun v0 => ld s v0 fun v1 => K [(r q39), v1] s)
 (.drw [] fun c r s K => (fun z m => ixA n4 n1 (r q6) (r q8) fun v0 => dL z m n8 n6 s v0 fun v1 m s => fad n0 (r q5) fun v2 => dL z m n64 n32 s v2 fun v3 m s => binK .rem (r q9) v3 fun v4 => binK .add v1 v4 fun v5 => fad n0 (r q5) fun v6 => dL z m (nat_lit 1024) (nat_lit 512) s v6 fun v7 m s => binK .rem v5 v7 fun v8 => ixA n4 n1 (r q6) (r q8) fun v9 => dS z m (nat_lit 8192) (nat_lit 8191) s n1 v9 v8 fun _ m s => K [] s) s.next mk0)))
 (.reg [q39] fun c r s K => binK .add (r q39) I1 fun v0 => K [v0] s)))))))
 (.seq (.reg [] fun c r s K => lN s n3 (r q5) fun v0 => lN s n4 (r q6) fun v1 => c (nat_lit 185) [v0, v1] s fun v2 s => sto s n4 (r q6) v2 fun s => K [] s)
 (.reg [q1] fun c r s K => h_op3_sliceS n1 (.c (r q1)) (some (.c (r q7))) none none c r s fun v0 s => K [v0] s))))))))
 (.seq (.reg [] fun c r s K => ixA n4 n1 (r q6) I0 fun v0 => ld s v0 fun v1 => ixA n4 n1 (r q6) I1 fun v2 => ld s v2 fun v3 => h_op3_build [zu, zu] [(n0, n1, (.c v1)), (n1, n1, (.c v3))] c r s fun v4 s => sto s n2 (r q4) v4 fun s => K [] s)
 .ret))))))), [(.cellN n2 q4)], [q0, q1], [q10, q11, q13, q14, q15, q16, q17, q18, q19, q20, q21, q22, q23, q24, q26, q27, q28, q29, q30, q32, q33, q34, q35, q36, q41, q42, q43, q44, q45, q46, q47, q48, q49, q50, q51, q52, q53, q54, q55, q56, q57, q58, q59, q60, q61, q62, q63, q64, q65, q66, q67, q68]⟩
/- attestor/lowdegree.rounds -/
noncomputable def cf143 : HF := ⟨
(.seq (.reg [q1, q2] fun c r s K => bxx s (r q0) fun v0 s => K [v0, (.sc (.lit .nilFunc))] s)
 (.seq (.reg [q2] fun c r s K => h_op4_makeFunc (nat_lit 272) [(.c (r q1))] c r s fun v0 s => K [v0] s)
 .ret)), [(.tmp q2)], [q0], [q3]⟩
/- attestor/lowdegree.rounds$1 -/
noncomputable def cf272 : HF := ⟨
(.seq (.reg [q3] fun c r s K => fad n0 (r q1) fun v0 => lN s n3 v0 fun v1 => alc s [zi, zi, zu] fun v2 s => sto s n3 v2 v1 fun s => K [v2] s)
 (.seq (.reg [q11, q12] fun c r s K => fad n3 (r q1) fun v0 => ld s v0 fun v1 => c (nat_lit 269) [v1] s fun v2 s => K [v2, I0] s)
 (.block n0 (.loop (.seq (.reg [q13] fun c r s K => binK .lss (r q12) (r q11) fun v0 => K [v0] s)
 (.seq (.cond (.t q13) .skip
 (.exit n0))
 (.seq (.block n1 (.seq (.reg [q4] fun c r s K => K [(r q12)] s)
 (.seq (.reg [q5] fun c r s K => fad n1 (r q3) fun v0 => ld s v0 fun v1 => binK .sub v1 I3 fun v2 => K [v2] s)
 (.seq (.reg [q6] fun c r s K => fad n4 (r q1) fun v0 => ld s v0 fun v1 => h_op4_minmax false [(.c v1), (.c (r q5))] c r s fun v2 s => K [v2] s)
 (.seq (.seq (.drw [q33] fun c r s K => (fun z m => xS true I1 (r q5) c r s fun v0 s => dN z m n16 n0 s n3 (r q3) fun v1 m s => binK .sub (r q5) (r q6) fun v2 => h_op3_build [zi, zi, zi, zi, zu, zi, zi] [(n0, n1, (.c (r q4))), (n1, n1, (.c v0)), (n2, n3, (.c v1)), (n5, n1, (.c (r q6))), (n6, n1, (.c v2))] c r s fun v3 s => dw3 m (nat_lit 1024) (nat_lit 1023) s (fun s q => h_op4_callV (.c (r q0)) [(.c v3)] c r s q) fun v4 m s => nott v4 fun v5 => K [v5] s) s.next mk0)
 (.cond (.t q33) .ret
 .skip))
 (.reg [] fun c r s K => lN s n3 (r q3) fun v0 => c (nat_lit 271) [v0] s fun v1 s => xE n0 v1 c r s fun v2 s => xE n1 v1 c r s fun v3 s => sto s n3 (r q3) v2 fun s => K [] s))))))
 (.reg [q12] fun c r s K => binK .add (r q12) I1 fun v0 => K [v0] s)))))))), [], [q0, q1], [q7, q8, q9, q10, q14, q15, q16, q17, q18, q19, q20, q21, q22, q23, q24, q25, q26, q27, q28, q29, q30, q31, q32, q35, q36, q34, q37, q38, q39]⟩
/- attestor/fold.Next -/
noncomputable def cf271 : HF := ⟨
(.seq (.reg [q1, q2, q3] fun c r s K => bxx s (r q0) fun v0 s => alc s [zi, zi, zu] fun v1 s => K [v0, v1, I0] s)
 (.seq (.block n0 (.seq (.reg [q4] fun c r s K => lN s n3 (r q1) fun v0 => c (nat_lit 267) [v0] s fun v1 s => nott v1 fun v2 => K [v2] s)
 (.cond (.t q4) (.seq (.reg [q3] fun c r s K => h_op3_build [zi, zi, zu] [] c r s fun v0 s => sto s n3 (r q2) v0 fun s => K [I1] s)
 .ret)
 (.seq (.reg [q9] fun c r s K => fad n1 (r q1) fun v0 => ld s v0 fun v1 => binK .lss v1 I3 fun v2 => K [v2] s)
 (.cond (.t q9) (.seq (.reg [q3] fun c r s K => h_op3_build [zi, zi, zu] [] c r s fun v0 s => sto s n3 (r q2) v0 fun s => K [I2] s)
 .ret)
 .skip)))))
 (.seq (.drw [q3] fun c r s K => (fun z m => fad n0 (r q1) fun v0 => dL z m n2 n1 s v0 fun v1 m s => fad n1 (r q1) fun v2 => dL z m n8 n4 s v2 fun v3 m s => binK .sub v3 I3 fun v4 => fad n0 (r q1) fun v5 => dL z m n64 n32 s v5 fun v6 m s => fad n2 (r q1) fun v7 => dL z m (nat_lit 256) n128 s v7 fun v8 m s => dw3 m (nat_lit 512) (nat_lit 480) s (fun s q => c (nat_lit 199) [v6, v8, U8] s q) fun v9 m s => h_op3_build [zi, zi, zu] [(n0, n1, (.c v1)), (n1, n1, (.c v4)), (n2, n1, (.c v9))] c r s fun v10 s => dS z m (nat_lit 2048) (nat_lit 2047) s n3 (r q2) v10 fun _ m s => K [I0] s) s.next mk0)
 .ret))), [(.cellN n3 q2), (.tmp q3)], [q0], [q5, q6, q7, q8, q10, q11, q12, q13, q14, q15, q16, q17, q18, q19, q20, q21, q22, q23, q24]⟩
/- attestor/field.Pow -/
noncomputable def cf199 : HF := ⟨
(.seq (.reg [q6] fun c r s K => K [U0] s)
 (.seq (.seq (.reg [q10] fun c r s K => c (nat_lit 181) [(r q0)] s fun v0 s => nott v0 fun v1 => K [v1] s)
 (.cond (.t q10) (.seq (.reg [q6] fun c r s K => K [U0] s)
 .ret)
 .skip))
 (.seq (.reg [q7] fun c r s K => K [U1] s)
 (.seq (.block n0 (.loop (.seq (.seq (.reg [q12] fun c r s K => binK .gtr (r q2) U0 fun v0 => K [v0] s)
 (.cond (.t q12) .skip
 (.exit n0)))
 (.seq (.block n1 (.seq (.seq (.reg [q17] fun c r s K => binK .and (r q2) U1 fun v0 => binK .eql v0 U1 fun v1 => K [v1] s)
 (.cond (.t q17) (.reg [q7] fun c r s K => c n138 [(r q0), (r q7), (r q1)] s fun v0 s => K [v0] s)
 .skip))
 (.reg [q1] fun c r s K => c n138 [(r q0), (r q1), (r q1)] s fun v0 s => K [v0] s)))
 (.reg [q2] fun c r s K => xS false (r q2) U1 c r s fun v0 s => K [v0] s)))))
 (.seq (.reg [q6] fun c r s K => K [(r q7)] s)
 .ret))))), [(.tmp q6)], [q0, q1, q2], [q8, q9, q11, q15, q16, q18, q19, q20, q21, q22, q23, q24, q25, q13, q14, q26]⟩
/- attestor/field.Mul -/
noncomputable def cf138 : HF := ⟨
(.seq (.reg [q6] fun c r s K => K [U0] s)
 (.seq (.reg [q7] fun c r s K => c n85 [(r q0)] s fun v0 s => K [v0] s)
 (.seq (.seq (.reg [q11] fun c r s K => binK .eql (r q7) U0 fun v0 => K [v0] s)
 (.cond (.t q11) (.seq (.reg [q6] fun c r s K => K [U0] s)
 .ret)
 .skip))
 (.seq (.drw [q6] fun c r s K => (fun z m => binK .rem (r q1) (r q7) fun v0 => binK .rem (r q2) (r q7) fun v1 => binK .mul v0 v1 fun v2 => binK .rem v2 (r q7) fun v3 => K [v3] s) s.next mk0)
 .ret)))), [(.tmp q6)], [q0, q1, q2], [q8, q9, q10, q12, q13, q14, q15, q16, q17, q18, q19, q20]⟩
/- attestor/fold.Rounds -/
noncomputable def cf269 : HF := ⟨
(.seq (.reg [q2] fun c r s K => K [I0] s)
 (.seq (.reg [q2] fun c r s K => h_op4_minmax true [(.c (r q0)), (.c I0)] c r s fun v0 s => binK .quo v0 I3 fun v1 => K [v1] s)
 .ret)), [(.tmp q2)], [q0], [q3, q4, q5]⟩
/- attestor/lowdegree.Open$1 -/
noncomputable def cf278 : HF := ⟨
(.seq (.reg [q3] fun c r s K => bxx s (r q0) fun v0 s => K [v0] s)
 (.drw [] fun c r s K => (fun z m => fad n0 (r q2) fun v0 => dL z m n2 n1 s v0 fun v1 m s => dN z m n4 n0 s n8 (r q3) fun v2 m s => dw1 m n8 (fun q => h_op3_buildS n1 n8 [zu, zu, zu, zu, zu, zu, zu, zu] [(n0, n8, (.c v2))] c r s q) fun v3 m s => dw5 z m n16 n15 s (.more (.more (.append n8 n64 (.c v1) (.c v3)))) r (fun s q => xA n8 n64 v1 v3 c r s q) fun v4 m s => fad n1 (r q2) fun v5 => dL z m n64 n32 s v5 fun v6 m s => dw1 m (nat_lit 256) (fun q => h_op3_buildS n1 n1 [zn] [(n0, n1, (.c (r q1)))] c r s q) fun v7 m s => dw5 z m (nat_lit 512) (nat_lit 511) s (.more (.more (.append n1 n24 (.c v6) (.c v7)))) r (fun s q => xA n1 n24 v6 v7 c r s q) fun v8 m s => fad n0 (r q2) fun v9 => dS z m (nat_lit 2048) (nat_lit 2047) s n1 v9 v4 fun _ m s => fad n1 (r q2) fun v11 => dS z m (nat_lit 8192) (nat_lit 8191) s n1 v11 v8 fun _ m s => K [] s) s.next mk0)), [], [q0, q1, q2], [q5, q6, q7, q8, q9, q10, q11, q12, q13, q14, q15, q16]⟩
/- attestor/code.Size -/
noncomputable def cf141 : HF := ⟨
(.seq (.reg [q1, q2] fun c r s K => bxx s (r q0) fun v0 s => K [v0, I0] s)
 (.seq (.seq (.reg [q5] fun c r s K => lN s n3 (r q1) fun v0 => c (nat_lit 267) [v0] s fun v1 s => nott v1 fun v2 => K [v2] s)
 (.cond (.t q5) (.seq (.reg [q2] fun c r s K => K [I0] s)
 .ret)
 .skip))
 (.seq (.reg [q2] fun c r s K => fad n1 (r q1) fun v0 => ld s v0 fun v1 => xS true I1 v1 c r s fun v2 s => K [v2] s)
 .ret))), [(.tmp q2)], [q0], [q3, q4, q6, q7, q8]⟩
/- attestor/lowdegree.validState -/
noncomputable def cf277 : HF := ⟨
(.seq (.reg [q1, q2] fun c r s K => bxx s (r q0) fun v0 s => K [v0, ff] s)
 (.seq (.seq (.drw [q20] fun c r s K => (fun z m => fad n0 (r q1) fun v0 => dN z m n2 n1 s n5 v0 fun v1 m s => dw3 m n4 n3 s (fun s q => c n140 [v1] s q) fun v2 m s => nott v2 fun v3 => jnD false v3 (fun jj => fad n5 (r q1) fun v => jj v m s) m s fun v4 m s => jnD false v3 (fun jj => dL z m n64 n63 s v4 jj) m s fun v5 m s => jnD false v3 (fun jj => lnS v5 fun v => jj v m s) m s fun v6 m s => jnD false v3 (fun jj => fad n0 (r q1) fun v => jj v m s) m s fun v7 m s => jnD false v3 (fun jj => fad n3 v7 fun v => jj v m s) m s fun v8 m s => jnD false v3 (fun jj => dL z m (nat_lit 1024) (nat_lit 799) s v8 jj) m s fun v9 m s => jnD false v3 (fun jj => dw3 m (nat_lit 2048) (nat_lit 1823) s (fun s q => c (nat_lit 269) [v9] s q) jj) m s fun v10 m s => jnD false v3 (fun jj => binK .add v10 I1 fun v => jj v m s) m s fun v11 m s => jnD false v3 (fun jj => binK .neq v6 v11 fun v => jj v m s) m s fun v12 m s => pck v3 tt v12 fun v13 => K [v13] s) s.next mk0)
 (.cond (.t q20) (.seq (.reg [q2] fun c r s K => K [ff] s)
 .ret)
 .skip))
 (.seq (.reg [q3] fun c r s K => fad n0 (r q1) fun v0 => fad n0 v0 fun v1 => lN s n3 v1 fun v2 => c n141 [v2] s fun v3 s => K [v3] s)
 (.seq (.seq (.reg [q26, q27, q28] fun c r s K => fad n5 (r q1) fun v0 => ld s v0 fun v1 => lnS v1 fun v2 => K [v1, v2, I0] s)
 (.block n0 (.loop (.seq (.reg [q29] fun c r s K => binK .lss (r q28) (r q27) fun v0 => K [v0] s)
 (.seq (.cond (.t q29) .skip
 (.exit n0))
 (.seq (.block n1 (.seq (.reg [q5] fun c r s K => ixs n1 (r q26) (r q28) fun v0 => ld s v0 fun v1 => K [v1] s)
 (.seq (.seq (.reg [q35] fun c r s K => lnS (r q5) fun v0 => binK .neq v0 (r q3) fun v1 => K [v1] s)
 (.cond (.t q35) (.seq (.reg [q2] fun c r s K => K [ff] s)
 .ret)
 .skip))
 (.reg [q3] fun c r s K => binK .quo (r q3) I8 fun v0 => K [v0] s))))
 (.reg [q28] fun c r s K => binK .add (r q28) I1 fun v0 => K [v0] s)))))))
 (.seq (.reg [q2] fun c r s K => K [tt] s)
 .ret))))), [(.tmp q2)], [q0], [q6, q7, q8, q9, q10, q11, q12, q13, q14, q15, q16, q17, q18, q19, q21, q22, q23, q24, q25, q30, q31, q32, q33, q34, q36, q37, q38]⟩
/- attestor/lowdegree.Valid -/
noncomputable def cf140 : HF := ⟨
(.seq (.reg [q1, q2] fun c r s K => bxx s (r q0) fun v0 s => K [v0, ff] s)
 (.seq (.reg [q2] fun c r s K => fad n0 (r q1) fun v0 => lN s n3 v0 fun v1 => c (nat_lit 267) [v1] s fun v2 s => jt v2 (fad n3 (r q1)) s fun v3 s => jt v2 (ld s v3) s fun v4 s => jt v2 (binK .geq v4 I0) s fun v5 s => pck v2 v5 ff fun v6 => jt v6 (fad n3 (r q1)) s fun v7 s => jt v6 (ld s v7) s fun v8 s => jt v6 (fad n0 (r q1)) s fun v9 s => jt v6 (fad n1 v9) s fun v10 s => jt v6 (ld s v10) s fun v11 s => jt v6 (binK .leq v8 v11) s fun v12 s => pck v6 v12 ff fun v13 => jt v13 (fad n4 (r q1)) s fun v14 s => jt v13 (ld s v14) s fun v15 s => jt v13 (binK .geq v15 I0) s fun v16 s => pck v13 v16 ff fun v17 => jt v17 (fad n4 (r q1)) s fun v18 s => jt v17 (ld s v18) s fun v19 s => jt v17 (binK .leq v19 I18) s fun v20 s => pck v17 v20 ff fun v21 => K [v21] s)
 .ret)), [(.tmp q2)], [q0], [q3, q4, q5, q6, q7, q8, q9, q10, q11, q12, q13, q14, q15, q16, q17, q18, q19, q20, q21, q22, q23, q24, q25, q26, q27, q28]⟩
/- (attestor/prover.orchard).open -/
noncomputable def cf150 : HF := ⟨
(.seq (.reg [q2, q4, q5] fun c r s K => bxx s (r q0) fun v0 s => K [v0, (.sc zn), (.sc zn)] s)
 (.seq (.seq (.reg [q11] fun c r s K => fad n0 (r q2) fun v0 => ld s v0 fun v1 => lnS v1 fun v2 => binK .eql v2 I0 fun v3 => K [v3] s)
 (.cond (.t q11) (.seq (.reg [q4, q5] fun c r s K => K [(.sc zn), (.sc zn)] s)
 .ret)
 .skip))
 (.seq (.reg [q6] fun c r s K => fad n1 (r q2) fun v0 => lN s n4 v0 fun v1 => c (nat_lit 276) [v1, (r q1)] s fun v2 s => xE n0 v2 c r s fun v3 s => xE n1 v2 c r s fun v4 s => K [v3] s)
 (.seq (.reg [q4, q5] fun c r s K => fad n0 (r q2) fun v0 => ld s v0 fun v1 => c n110 [v1, (r q1)] s fun v2 s => K [v2, (r q6)] s)
 .ret)))), [(.tmp q4), (.tmp q5)], [q0, q1], [q8, q9, q10, q13, q14, q15, q16, q12, q17, q18, q7, q19, q20, q21, q22, q23]⟩
/- attestor/prover.row -/
noncomputable def cf110 : HF := ⟨
(.seq (.reg [q4] fun c r s K => K [(.sc zn)] s)
 (.seq (.seq (.reg [q10] fun c r s K => lnS (r q0) fun v0 => binK .eql v0 I0 fun v1 => K [v1] s)
 (.cond (.t q10) (.seq (.reg [q4] fun c r s K => K [(.sc zn)] s)
 .ret)
 .skip))
 (.seq (.reg [q5] fun c r s K => lnS (r q0) fun v0 => xM n1 n8 [zu] v0 v0 c r s fun v1 s => K [v1] s)
 (.seq (.seq (.reg [q14, q15, q16] fun c r s K => lnS (r q0) fun v0 => K [(r q0), v0, I0] s)
 (.block n0 (.loop (.seq (.reg [q17] fun c r s K => binK .lss (r q16) (r q15) fun v0 => K [v0] s)
 (.seq (.cond (.t q17) .skip
 (.exit n0))
 (.seq (.block n1 (.seq (.reg [q6, q7] fun c r s K => ixs n1 (r q14) (r q16) fun v0 => ld s v0 fun v1 => K [(r q16), v1] s)
 (.reg [] fun c r s K => ixs n1 (r q7) (r q1) fun v0 => ld s v0 fun v1 => ixs n1 (r q5) (r q6) fun v2 => sto s n1 v2 v1 fun s => K [] s)))
 (.reg [q16] fun c r s K => binK .add (r q16) I1 fun v0 => K [v0] s)))))))
 (.seq (.reg [q4] fun c r s K => K [(r q5)] s)
 .ret))))), [(.tmp q4)], [q0, q1], [q8, q9, q11, q12, q13, q18, q19, q20, q21, q22, q23, q24, q25, q26, q27, q28, q29]⟩
/- attestor/channel.Position -/
noncomputable def cf59 : HF := ⟨
(.seq (.reg [q2, q4, q5] fun c r s K => bxx s (r q0) fun v0 s => alc s [zi, zu, zu, zu, zu] fun v1 s => K [v0, v1, I0] s)
 (.seq (.seq (.reg [q10] fun c r s K => lN s n5 (r q2) fun v0 => c n148 [v0, (r q1)] s fun v1 s => nott v1 fun v2 => K [v2] s)
 (.cond (.t q10) (.seq (.reg [q5] fun c r s K => h_op3_build [zi, zu, zu, zu, zu] [] c r s fun v0 s => sto s n5 (r q4) v0 fun s => K [I0] s)
 .ret)
 .skip))
 (.seq (.reg [q6] fun c r s K => lN s n5 (r q2) fun v0 => c n135 [v0] s fun v1 s => xE n0 v1 c r s fun v2 s => xE n1 v1 c r s fun v3 s => sto s n5 (r q2) v2 fun s => K [v3] s)
 (.seq (.drw [q5] fun c r s K => (fun z m => dN z m n1 n0 s n5 (r q2) fun v0 m s => xS true U1 (r q1) c r s fun v1 s => binK .sub v1 U1 fun v2 => binK .and (r q6) v2 fun v3 => cnv .i64 v3 fun v4 => dS z m n128 n1 s n5 (r q4) v0 fun _ m s => K [v4] s) s.next mk0)
 .ret)))), [(.cellN n5 q4), (.tmp q5)], [q0, q1], [q7, q8, q9, q11, q13, q14, q12, q15, q16, q17, q18, q19, q20, q21, q22, q23]⟩
/- attestor/channel.Draw -/
noncomputable def cf135 : HF := ⟨
(.seq (.reg [q1, q2, q3] fun c r s K => bxx s (r q0) fun v0 s => alc s [zi, zu, zu, zu, zu] fun v1 s => K [v0, v1, U0] s)
 (.seq (.seq (.reg [q7] fun c r s K => fad n0 (r q1) fun v0 => ld s v0 fun v1 => c (nat_lit 181) [v1] s fun v2 s => nott v2 fun v3 => K [v3] s)
 (.cond (.t q7) (.seq (.reg [q3] fun c r s K => h_op3_build [zi, zu, zu, zu, zu] [] c r s fun v0 s => sto s n5 (r q2) v0 fun s => K [U0] s)
 .ret)
 .skip))
 (.seq (.reg [] fun c r s K => lN s n5 (r q1) fun v0 => c (nat_lit 183) [v0, U0, U2] s fun v1 s => sto s n5 (r q1) v1 fun s => K [] s)
 (.seq (.drw [q3] fun c r s K => (fun z m => dN z m n1 n0 s n5 (r q1) fun v0 m s => fad n1 (r q1) fun v1 => ixA n4 n1 v1 I0 fun v2 => dL z m n8 n6 s v2 fun v3 m s => dS z m n16 n1 s n5 (r q2) v0 fun _ m s => K [v3] s) s.next mk0)
 .ret)))), [(.cellN n5 q2), (.tmp q3)], [q0], [q4, q5, q6, q8, q9, q10, q11, q12, q13, q14]⟩
/- attestor/channel.mixed -/
noncomputable def cf183 : HF := ⟨
(.seq (.reg [q3, q6] fun c r s K => bxx s (r q0) fun v0 s => alc s [zi, zu, zu, zu, zu] fun v1 s => K [v0, v1] s)
 (.seq (.reg [] fun c r s K => fad n0 (r q3) fun v0 => ld s v0 fun v1 => fad n1 (r q3) fun v2 => ixA n4 n1 v2 I0 fun v3 => ld s v3 fun v4 => c n137 [v1, v4, (r q1)] s fun v5 s => fad n1 (r q3) fun v6 => ixA n4 n1 v6 I0 fun v7 => sto s n1 v7 v5 fun s => K [] s)
 (.seq (.reg [] fun c r s K => fad n0 (r q3) fun v0 => ld s v0 fun v1 => fad n1 (r q3) fun v2 => ixA n4 n1 v2 I1 fun v3 => ld s v3 fun v4 => c n137 [v1, v4, (r q2)] s fun v5 s => fad n1 (r q3) fun v6 => ixA n4 n1 v6 I1 fun v7 => sto s n1 v7 v5 fun s => K [] s)
 (.seq (.reg [] fun c r s K => fad n0 (r q3) fun v0 => ld s v0 fun v1 => fad n1 (r q3) fun v2 => lN s n4 v2 fun v3 => c (nat_lit 304) [v1, v3] s fun v4 s => fad n1 (r q3) fun v5 => sto s n4 v5 v4 fun s => K [] s)
 (.seq (.reg [] fun c r s K => lN s n5 (r q3) fun v0 => sto s n5 (r q6) v0 fun s => K [] s)
 .ret))))), [(.cellN n5 q6)], [q0, q1, q2], [q7, q8, q9, q10, q11, q12, q13, q14, q15, q16, q17, q18, q19, q20, q21, q22, q23, q24, q25, q26, q27, q28, q29, q30, q31]⟩
/- attestor/sponge.Perm -/
noncomputable def cf304 : HF := ⟨
(.seq (.reg [q3, q4] fun c r s K => bxx s (r q1) fun v0 s => alc s [zu, zu, zu, zu] fun v1 s => K [v0, v1] s)
 (.seq (.seq (.reg [q8] fun c r s K => c (nat_lit 181) [(r q0)] s fun v0 s => nott v0 fun v1 => K [v1] s)
 (.cond (.t q8) (.seq (.reg [] fun c r s K => h_op3_build [zu, zu, zu, zu] [] c r s fun v0 s => sto s n4 (r q4) v0 fun s => K [] s)
 .ret)
 .skip))
 (.seq (.reg [q5] fun c r s K => c (nat_lit 184) [(r q0)] s fun v0 s => alc s [zu, zu, (.bool false)] fun v1 s => sto s n3 v1 v0 fun s => K [v1] s)
 (.seq (.drw [] fun c r s K => (fun z m => dN z m n1 n0 s n3 (r q5) fun v0 m s => dN z m n2 n0 s n3 (r q5) fun v1 m s => dN z m n4 n0 s n4 (r q3) fun v2 m s => dw3 m n8 n6 s (fun s q => c (nat_lit 377) [v1, v2] s q) fun v3 m s => dw3 m n16 n15 s (fun s q => c (nat_lit 185) [v0, v3] s q) fun v4 m s => dS z m n32 n31 s n4 (r q4) v4 fun _ m s => K [] s) s.next mk0)
 .ret)))), [(.cellN n4 q4)], [q0, q1], [q6, q7, q9, q10, q11, q12, q13, q14, q15, q16]⟩
/- attestor/field.Add -/
noncomputable def cf137 : HF := ⟨
(.seq (.reg [q6] fun c r s K => K [U0] s)
 (.seq (.reg [q7] fun c r s K => c n85 [(r q0)] s fun v0 s => K [v0] s)
 (.seq (.seq (.reg [q12] fun c r s K => binK .eql (r q7) U0 fun v0 => K [v0] s)
 (.cond (.t q12) (.seq (.reg [q6] fun c r s K => K [U0] s)
 .ret)
 .skip))
 (.seq (.drw [q8] fun c r s K => (fun z m => binK .rem (r q1) (r q7) fun v0 => binK .rem (r q2) (r q7) fun v1 => binK .add v0 v1 fun v2 => K [v2] s) s.next mk0)
 (.seq (.seq (.reg [q22] fun c r s K => binK .geq (r q8) (r q7) fun v0 => K [v0] s)
 (.cond (.t q22) (.reg [q8] fun c r s K => binK .sub (r q8) (r q7) fun v0 => K [v0] s)
 .skip))
 (.seq (.reg [q6] fun c r s K => K [(r q8)] s)
 .ret)))))), [(.tmp q6)], [q0, q1, q2], [q9, q10, q11, q13, q14, q15, q16, q17, q18, q19, q20, q21, q23, q24, q25, q26]⟩
/- attestor/channel.bounded -/
noncomputable def cf148 : HF := ⟨
(.seq (.reg [q2, q4] fun c r s K => bxx s (r q0) fun v0 s => K [v0, ff] s)
 (.seq (.reg [q4] fun c r s K => fad n0 (r q2) fun v0 => ld s v0 fun v1 => c (nat_lit 181) [v1] s fun v2 s => mt v2 (r q1) s fun v3 s => jt v2 (binK .geq v3 I0) s fun v4 s => pck v2 v4 ff fun v5 => mt v5 (r q1) s fun v6 s => jt v5 (binK .leq v6 I24) s fun v7 s => pck v5 v7 ff fun v8 => K [v8] s)
 .ret)), [(.tmp q4)], [q0, q1], [q5, q6, q7, q8, q9, q10, q11, q12, q13, q14, q15]⟩
/- attestor/channel.Grind -/
noncomputable def cf58 : HF := ⟨
(.seq (.reg [q3, q6, q7] fun c r s K => bxx s (r q0) fun v0 s => alc s [zi, zu, zu, zu, zu] fun v1 s => K [v0, v1, ff] s)
 (.seq (.seq (.reg [q12] fun c r s K => lN s n5 (r q3) fun v0 => c n148 [v0, (r q2)] s fun v1 s => nott v1 fun v2 => K [v2] s)
 (.cond (.t q12) (.seq (.reg [q7] fun c r s K => h_op3_build [zi, zu, zu, zu, zu] [] c r s fun v0 s => sto s n5 (r q6) v0 fun s => K [ff] s)
 .ret)
 .skip))
 (.seq (.reg [q8] fun c r s K => lN s n5 (r q3) fun v0 => h_op3_buildS n1 n1 [zu] [(n0, n1, (.c (r q1)))] c r s fun v1 s => c n87 [v0, v1] s fun v2 s => c n59 [v2, (r q2)] s fun v3 s => xE n0 v3 c r s fun v4 s => xE n1 v3 c r s fun v5 s => sto s n5 (r q3) v4 fun s => K [v5] s)
 (.seq (.reg [q7] fun c r s K => lN s n5 (r q3) fun v0 => binK .eql (r q8) I0 fun v1 => sto s n5 (r q6) v0 fun s => K [v1] s)
 .ret)))), [(.cellN n5 q6), (.tmp q7)], [q0, q1, q2], [q9, q10, q11, q13, q15, q16, q17, q18, q19, q20, q14, q21, q22, q23, q24, q25]⟩
/- attestor/channel.Absorb -/
noncomputable def cf87 : HF := ⟨
(.seq (.reg [q2, q4] fun c r s K => bxx s (r q0) fun v0 s => alc s [zi, zu, zu, zu, zu] fun v1 s => K [v0, v1] s)
 (.seq (.seq (.reg [q11] fun c r s K => fad n0 (r q2) fun v0 => ld s v0 fun v1 => c (nat_lit 181) [v1] s fun v2 s => nott v2 fun v3 => K [v3] s)
 (.cond (.t q11) (.seq (.reg [] fun c r s K => h_op3_build [zi, zu, zu, zu, zu] [] c r s fun v0 s => sto s n5 (r q4) v0 fun s => K [] s)
 .ret)
 .skip))
 (.seq (.seq (.reg [q13] fun c r s K => K [I0] s)
 (.block n0 (.loop (.seq (.reg [q14] fun c r s K => binK .lss (r q13) I4 fun v0 => K [v0] s)
 (.seq (.cond (.t q14) .skip
 (.exit n0))
 (.seq (.block n1 (.seq (.reg [q5] fun c r s K => K [(r q13)] s)
 (.drw [] fun c r s K => (fun z m => fad n0 (r q2) fun v0 => dL z m n4 n2 s v0 fun v1 m s => fad n1 (r q2) fun v2 => ixA n4 n1 v2 (r q5) fun v3 => dL z m n64 n56 s v3 fun v4 m s => dw1 m n128 (fun q => h_op3_buildS n1 n1 [zu] [(n0, n1, (.c v4))] c r s q) fun v5 m s => dw3 m (nat_lit 256) (nat_lit 254) s (fun s q => c (nat_lit 182) [v1, v5] s q) fun v6 m s => fad n1 (r q2) fun v7 => ixA n4 n1 v7 (r q5) fun v8 => dS z m (nat_lit 2048) (nat_lit 2047) s n1 v8 v6 fun _ m s => K [] s) s.next mk0)))
 (.reg [q13] fun c r s K => binK .add (r q13) I1 fun v0 => K [v0] s)))))))
 (.seq (.seq (.reg [q28, q29, q30] fun c r s K => lnS (r q1) fun v0 => K [(r q1), v0, I0] s)
 (.block n2 (.loop (.seq (.reg [q31] fun c r s K => binK .lss (r q30) (r q29) fun v0 => K [v0] s)
 (.seq (.cond (.t q31) .skip
 (.exit n2))
 (.seq (.block n3 (.seq (.reg [q7] fun c r s K => ixs n1 (r q28) (r q30) fun v0 => ld s v0 fun v1 => K [v1] s)
 (.reg [] fun c r s K => lN s n5 (r q2) fun v0 => c (nat_lit 183) [v0, (r q7), U1] s fun v1 s => sto s n5 (r q2) v1 fun s => K [] s)))
 (.reg [q30] fun c r s K => binK .add (r q30) I1 fun v0 => K [v0] s)))))))
 (.seq (.reg [] fun c r s K => lN s n5 (r q2) fun v0 => sto s n5 (r q4) v0 fun s => K [] s)
 .ret))))), [(.cellN n5 q4)], [q0, q1], [q8, q9, q10, q12, q15, q16, q17, q18, q19, q20, q21, q22, q23, q24, q25, q26, q27, q32, q33, q34, q35, q36, q37, q38]⟩
/- attestor/field.Sum -/
noncomputable def cf182 : HF := ⟨
(.seq (.reg [q4] fun c r s K => K [U0] s)
 (.seq (.reg [q5] fun c r s K => K [U0] s)
 (.seq (.seq (.reg [q8, q9, q10] fun c r s K => lnS (r q1) fun v0 => K [(r q1), v0, I0] s)
 (.block n0 (.loop (.seq (.reg [q11] fun c r s K => binK .lss (r q10) (r q9) fun v0 => K [v0] s)
 (.seq (.cond (.t q11) .skip
 (.exit n0))
 (.seq (.block n1 (.seq (.reg [q7] fun c r s K => ixs n1 (r q8) (r q10) fun v0 => ld s v0 fun v1 => K [v1] s)
 (.reg [q5] fun c r s K => c n137 [(r q0), (r q5), (r q7)] s fun v0 s => K [v0] s)))
 (.reg [q10] fun c r s K => binK .add (r q10) I1 fun v0 => K [v0] s)))))))
 (.seq (.reg [q4] fun c r s K => K [(r q5)] s)
 .ret)))), [(.tmp q4)], [q0, q1], [q12, q13, q14, q15, q16, q17, q18, q19]⟩
/- attestor/channel.Search -/
noncomputable def cf57 : HF := ⟨
(.seq (.reg [q3, q4, q6, q7] fun c r s K => bxx s (r q0) fun v0 s => bxx s (r q1) fun v1 s => K [v0, v1, U0, ff] s)
 (.seq (.seq (.reg [q13] fun c r s K => lN s n5 (r q3) fun v0 => ld s (r q4) fun v1 => c n148 [v0, v1] s fun v2 s => nott v2 fun v3 => K [v3] s)
 (.cond (.t q13) (.seq (.reg [q6, q7] fun c r s K => K [U0, ff] s)
 .ret)
 .skip))
 (.seq (.reg [q8] fun c r s K => h_op4_makeFunc n149 [(.c (r q3)), (.c (r q4))] c r s fun v0 s => K [v0] s)
 (.seq (.seq (.reg [q20, q21] fun c r s K => fad n0 (r q3) fun v0 => ld s v0 fun v1 => c n85 [v1] s fun v2 s => cnv .i64 v2 fun v3 => h_op4_minmax false [(.c (r q2)), (.c (i6 (nat_lit 1048576))), (.c v3)] c r s fun v4 s => K [v4, I0] s)
 (.block n0 (.loop (.seq (.reg [q22] fun c r s K => binK .lss (r q21) (r q20) fun v0 => K [v0] s)
 (.seq (.cond (.t q22) .skip
 (.exit n0))
 (.seq (.block n1 (.seq (.reg [q9] fun c r s K => K [(r q21)] s)
 (.seq (.reg [q26] fun c r s K => h_op4_callV (.c (r q8)) [(.c (r q9))] c r s fun v0 s => K [v0] s)
 (.cond (.t q26) (.seq (.reg [q6, q7] fun c r s K => cnv .u64 (r q9) fun v0 => K [v0, tt] s)
 .ret)
 .skip))))
 (.reg [q21] fun c r s K => binK .add (r q21) I1 fun v0 => K [v0] s)))))))
 (.seq (.reg [q6, q7] fun c r s K => K [U0, ff] s)
 .ret))))), [(.tmp q6), (.tmp q7)], [q0, q1, q2], [q10, q11, q12, q14, q15, q16, q17, q18, q19, q23, q24, q25, q27, q28, q29]⟩
/- attestor/channel.Search$1 -/
noncomputable def cf149 : HF := ⟨
(.seq (.reg [q4] fun c r s K => K [ff] s)
 (.seq (.reg [q6] fun c r s K => lN s n5 (r q1) fun v0 => cnv .u64 (r q0) fun v1 => ld s (r q2) fun v2 => c n58 [v0, v1, v2] s fun v3 s => xE n0 v3 c r s fun v4 s => xE n1 v3 c r s fun v5 s => alc s [zi, zu, zu, zu, zu] fun v6 s => sto s n5 v6 v4 fun s => K [v5] s)
 (.seq (.reg [q4] fun c r s K => K [(r q6)] s)
 .ret))), [(.tmp q4)], [q0, q1, q2], [q8, q9, q10, q11, q12, q7, q13, q14, q5, q15]⟩
/- attestor/lowdegree.Commit -/
noncomputable def cf56 : HF := ⟨
(.seq (.reg [q3, q5, q6, q7, q8] fun c r s K => bxx s (r q0) fun v0 s => bxx s (r q2) fun v1 s => alc s [zi, zi, zu, zi, zi, zn, zn, zn] fun v2 s => alc s [zi, zu, zu, zu, zu] fun v3 s => alc s [zi] fun v4 s => K [v0, v1, v2, v3, v4] s)
 (.seq (.seq (.reg [q39] fun c r s K => lN s n5 (r q3) fun v0 => c n140 [v0] s fun v1 s => nott v1 fun v2 => mf v2 (r q1) s fun v3 s => jf v2 (lnS v3) s fun v4 s => jf v2 (fad n0 (r q3)) s fun v5 s => jf v2 (lN s n3 v5) s fun v6 s => jn false v2 (fun j => c n141 [v6] s j) s fun v7 s => jf v2 (binK .neq v4 v7) s fun v8 s => pck v2 tt v8 fun v9 => jf v9 (fad n0 (r q5)) s fun v10 s => jf v9 (ld s v10) s fun v11 s => jf v9 (fad n0 (r q3)) s fun v12 s => jf v9 (fad n0 v12) s fun v13 s => jf v9 (ld s v13) s fun v14 s => jf v9 (binK .neq v11 v14) s fun v15 s => pck v9 tt v15 fun v16 => K [v16] s)
 (.cond (.t q39) (.seq (.reg [] fun c r s K => h_op3_build [zi, zi, zu, zi, zi, zn, zn, zn] [] c r s fun v0 s => h_op3_build [zi, zu, zu, zu, zu] [] c r s fun v1 s => sto s n8 (r q6) v0 fun s => sto s n5 (r q7) v1 fun s => sto s n1 (r q8) I1 fun s => K [] s)
 .ret)
 .skip))
 (.seq (.reg [q9, q10] fun c r s K => fad n0 (r q3) fun v0 => lN s n3 v0 fun v1 => c n142 [v1, (r q1), (.sc zn)] s fun v2 s => xE n0 v2 c r s fun v3 s => xE n1 v2 c r s fun v4 s => K [v3, v4] s)
 (.seq (.seq (.reg [q50] fun c r s K => binK .neq (r q10) I0 fun v0 => K [v0] s)
 (.cond (.t q50) (.seq (.reg [] fun c r s K => h_op3_build [zi, zi, zu, zi, zi, zn, zn, zn] [] c r s fun v0 s => h_op3_build [zi, zu, zu, zu, zu] [] c r s fun v1 s => sto s n8 (r q6) v0 fun s => sto s n5 (r q7) v1 fun s => sto s n1 (r q8) (r q10) fun s => K [] s)
 .ret)
 .skip))
 (.seq (.reg [q11] fun c r s K => lN s n5 (r q3) fun v0 => h_op3_build [zi, zi, zu, zi, zi, zn, zn, zn] [(n0, n5, (.c v0)), (n5, n1, (.c (r q9)))] c r s fun v1 s => alc s [zi, zi, zu, zi, zi, zn, zn, zn] fun v2 s => sto s n8 v2 v1 fun s => K [v2] s)
 (.seq (.seq (.reg [q58] fun c r s K => lN s n5 (r q3) fun v0 => c n143 [v0] s fun v1 s => K [v1] s)
 (.block n0 (.rng n56 n0 (.t q58) [q59] (.reg [q12] fun c r s K => alc s [zi, zi, zi, zi, zu, zi, zi] fun v0 s => sto s n7 v0 (r q59) fun s => K [v0] s)
 (.block n1 (.seq (.drw [q13, q14] fun c r s K => (fun z m => dN z m n1 n0 s n7 (r q12) fun v0 m s => fad n5 (r q11) fun v1 => dL z m n4 n2 s v1 fun v2 m s => fad n0 (r q12) fun v3 => dL z m n16 n8 s v3 fun v4 m s => ixs n1 v2 v4 fun v5 => dL z m n64 n62 s v5 fun v6 m s => dw3 m n128 n127 s (fun s q => c n144 [v0, v6] s q) fun v7 m s => xE n0 v7 c r s fun v8 s => xE n1 v7 c r s fun v9 s => dw1 m (nat_lit 2048) (fun q => alc s [zi, zi, zi, zn] q) fun v10 m s => dS z m (nat_lit 4096) (nat_lit 3071) s n4 v10 v8 fun _ m s => K [v10, v9] s) s.next mk0)
 (.seq (.seq (.reg [q72] fun c r s K => binK .neq (r q14) I0 fun v0 => K [v0] s)
 (.cond (.t q72) (.seq (.reg [] fun c r s K => h_op3_build [zi, zi, zu, zi, zi, zn, zn, zn] [] c r s fun v0 s => h_op3_build [zi, zu, zu, zu, zu] [] c r s fun v1 s => sto s n8 (r q6) v0 fun s => sto s n5 (r q7) v1 fun s => sto s n1 (r q8) (r q14) fun s => K [] s)
 .ret)
 .skip))
 (.seq (.reg [q15] fun c r s K => lN s n4 (r q13) fun v0 => c n114 [v0] s fun v1 s => K [v1] s)
 (.seq (.reg [] fun c r s K => fad n6 (r q11) fun v0 => fad n0 v0 fun v1 => ld s v1 fun v2 => h_op3_buildS n1 n1 [zn] [(n0, n1, (.c (r q15)))] c r s fun v3 s => xA n1 n24 v2 v3 c r s fun v4 s => fad n6 (r q11) fun v5 => fad n0 v5 fun v6 => sto s n1 v6 v4 fun s => K [] s)
 (.seq (.reg [q16] fun c r s K => K [U0] s)
 (.seq (.reg [q16] fun c r s K => lN s n5 (r q5) fun v0 => c n88 [v0, (r q15)] s fun v1 s => c n135 [v1] s fun v2 s => xE n0 v2 c r s fun v3 s => xE n1 v2 c r s fun v4 s => sto s n5 (r q5) v3 fun s => K [v4] s)
 (.seq (.drw [q17, q14] fun c r s K => (fun z m => fad n2 (r q12) fun v0 => dN z m n2 n1 s n3 v0 fun v1 m s => fad n5 (r q11) fun v2 => dL z m n8 n4 s v2 fun v3 m s => fad n0 (r q12) fun v4 => dL z m n32 n16 s v4 fun v5 m s => ixs n1 v3 v5 fun v6 => dL z m n128 n124 s v6 fun v7 m s => dw3 m (nat_lit 512) (nat_lit 511) s (fun s q => c n145 [v1, v7, (r q16)] s q) fun v8 m s => xE n0 v8 c r s fun v9 s => xE n1 v8 c r s fun v10 s => K [v9, v10] s) s.next mk0)
 (.seq (.seq (.reg [q107] fun c r s K => binK .neq (r q14) I0 fun v0 => K [v0] s)
 (.cond (.t q107) (.seq (.reg [] fun c r s K => h_op3_build [zi, zi, zu, zi, zi, zn, zn, zn] [] c r s fun v0 s => h_op3_build [zi, zu, zu, zu, zu] [] c r s fun v1 s => sto s n8 (r q6) v0 fun s => sto s n5 (r q7) v1 fun s => sto s n1 (r q8) (r q14) fun s => K [] s)
 .ret)
 .skip))
 (.reg [] fun c r s K => fad n5 (r q11) fun v0 => ld s v0 fun v1 => h_op3_buildS n1 n1 [zn] [(n0, n1, (.c (r q17)))] c r s fun v2 s => xA n1 n24 v1 v2 c r s fun v3 s => fad n5 (r q11) fun v4 => sto s n1 v4 v3 fun s => K [] s)))))))))))))
 (.seq (.reg [q18, q19] fun c r s K => lN s n5 (r q3) fun v0 => c n146 [v0] s fun v1 s => xE n0 v1 c r s fun v2 s => xE n1 v1 c r s fun v3 s => alc s [zi, zi, zu] fun v4 s => sto s n3 v4 v2 fun s => K [v4, v3] s)
 (.seq (.drw [q20, q10] fun c r s K => (fun z m => fad n0 (r q18) fun v0 => dL z m n2 n1 s v0 fun v1 m s => fad n2 (r q18) fun v2 => dL z m n8 n4 s v2 fun v3 m s => fad n5 (r q11) fun v4 => dL z m n32 n16 s v4 fun v5 m s => fad n5 (r q11) fun v6 => dL z m n128 n64 s v6 fun v7 m s => lnS v7 fun v8 => binK .sub v8 I1 fun v9 => ixs n1 v5 v9 fun v10 => dL z m (nat_lit 2048) (nat_lit 2032) s v10 fun v11 m s => dw3 m (nat_lit 4096) (nat_lit 4095) s (fun s q => c n112 [v1, v3, v11] s q) fun v12 m s => xE n0 v12 c r s fun v13 s => xE n1 v12 c r s fun v14 s => K [v13, v14] s) s.next mk0)
 (.seq (.seq (.reg [q147] fun c r s K => binK .neq (r q10) I0 fun v0 => jf v0 (fad n0 (r q18)) s fun v1 s => jf v0 (ld s v1) s fun v2 s => mf v0 (r q20) s fun v3 s => jn false v0 (fun j => c n147 [v2, v3] s j) s fun v4 s => mf v0 (r q19) s fun v5 s => jf v0 (binK .geq v4 v5) s fun v6 s => pck v0 tt v6 fun v7 => K [v7] s)
 (.cond (.t q147) (.seq (.reg [] fun c r s K => h_op3_build [zi, zi, zu, zi, zi, zn, zn, zn] [] c r s fun v0 s => h_op3_build [zi, zu, zu, zu, zu] [] c r s fun v1 s => sto s n8 (r q6) v0 fun s => sto s n5 (r q7) v1 fun s => sto s n1 (r q8) I7 fun s => K [] s)
 .ret)
 .skip))
 (.seq (.reg [] fun c r s K => h_op3_sliceS n1 (.c (r q20)) none (some (.c (r q19))) (some (.c (r q19))) c r s fun v0 s => fad n6 (r q11) fun v1 => fad n1 v1 fun v2 => sto s n1 v2 v0 fun s => K [] s)
 (.seq (.drw [] fun c r s K => (fun z m => dN z m n1 n0 s n8 (r q11) fun v0 m s => dN z m n2 n0 s n5 (r q5) fun v1 m s => fad n6 (r q11) fun v2 => fad n1 v2 fun v3 => dL z m n16 n12 s v3 fun v4 m s => dw3 m n32 n30 s (fun s q => c n87 [v1, v4] s q) fun v5 m s => dS z m n64 n63 s n8 (r q6) v0 fun _ m s => dS z m n128 n127 s n5 (r q7) v5 fun _ m s => dS z m (nat_lit 256) (nat_lit 255) s n1 (r q8) I0 fun _ m s => K [] s) s.next mk0)
 .ret))))))))))), [(.cellN n8 q6), (.cellN n5 q7), (.cell1 q8)], [q0, q1, q2], [q21, q22, q23, q24, q25, q26, q27, q28, q29, q30, q31, q32, q33, q34, q35, q36, q37, q38, q40, q41, q43, q44, q45, q46, q42, q47, q48, q49, q51, q52, q53, q54, q55, q56, q57, q61, q62, q63, q64, q65, q66, q67, q68, q60, q69, q70, q71, q73, q74, q75, q76, q77, q78, q79, q80, q81, q82, q83, q84, q85, q87, q88, q89, q90, q86, q91, q92, q94, q95, q96, q97, q98, q99, q100, q101, q102, q103, q93, q104, q105, q106, q108, q109, q110, q111, q112, q113, q114, q115, q116, q118, q119, q117, q120, q121, q123, q124, q125, q126, q127, q128, q129, q130, q131, q132, q133, q134, q135, q122, q136, q137, q138, q139, q140, q141, q142, q143, q144, q145, q146, q148, q149, q150, q151, q152, q153, q154, q155, q156, q157, q158, q159, q160, q161]⟩
/- attestor/poly.Degree -/
noncomputable def cf147 : HF := ⟨
(.seq (.reg [q4] fun c r s K => K [I0] s)
 (.seq (.seq (.reg [q5] fun c r s K => lnS (r q1) fun v0 => K [v0] s)
 (.block n0 (.loop (.seq (.seq (.reg [q9] fun c r s K => binK .gtr (r q5) I0 fun v0 => K [v0] s)
 (.cond (.t q9) .skip
 (.exit n0)))
 (.seq (.block n1 (.seq (.reg [q19] fun c r s K => binK .sub (r q5) I1 fun v0 => ixs n1 (r q1) v0 fun v1 => ld s v1 fun v2 => c (nat_lit 214) [(r q0), v2] s fun v3 s => binK .neq v3 U0 fun v4 => K [v4] s)
 (.cond (.t q19) (.seq (.reg [q4] fun c r s K => binK .sub (r q5) I1 fun v0 => K [v0] s)
 .ret)
 .skip)))
 (.reg [q5] fun c r s K => binK .sub (r q5) I1 fun v0 => K [v0] s))))))
 (.seq (.reg [q4] fun c r s K => (fun v0 => K [v0] s) (.sc (.int .i64 (.negSucc n0))))
 .ret))), [(.tmp q4)], [q0, q1], [q6, q7, q8, q12, q13, q14, q15, q16, q17, q18, q20, q21, q10, q11]⟩
/- attestor/transform.Coefficients -/
noncomputable def cf112 : HF := ⟨
(.seq (.reg [q6, q7] fun c r s K => K [(.sc zn), I0] s)
 (.seq (.seq (.reg [q17] fun c r s K => c (nat_lit 214) [(r q0), (r q1)] s fun v0 s => binK .eql v0 U0 fun v1 => K [v1] s)
 (.cond (.t q17) (.seq (.reg [q6, q7] fun c r s K => K [(.sc zn), I1] s)
 .ret)
 .skip))
 (.seq (.reg [q8, q9] fun c r s K => lnS (r q2) fun v0 => c (nat_lit 215) [(r q0), v0] s fun v1 s => xE n0 v1 c r s fun v2 s => xE n1 v1 c r s fun v3 s => K [v2, v3] s)
 (.seq (.seq (.reg [q26] fun c r s K => nott (r q9) fun v0 => K [v0] s)
 (.cond (.t q26) (.seq (.reg [q6, q7] fun c r s K => K [(.sc zn), I2] s)
 .ret)
 .skip))
 (.seq (.reg [q10] fun c r s K => c (nat_lit 216) [(r q0), (r q2)] s fun v0 s => K [v0] s)
 (.seq (.reg [] fun c r s K => c (nat_lit 200) [(r q0), (r q8)] s fun v0 s => c (nat_lit 218) [(r q0), v0] s fun v1 s => c (nat_lit 217) [(r q0), (r q10), v1] s fun v2 s => K [] s)
 (.seq (.reg [q11, q12] fun c r s K => lnS (r q2) fun v0 => cnv .u64 v0 fun v1 => c (nat_lit 218) [(r q0), v1] s fun v2 s => c (nat_lit 218) [(r q0), (r q1)] s fun v3 s => K [v2, v3] s)
 (.seq (.seq (.reg [q47, q48] fun c r s K => lnS (r q10) fun v0 => K [v0, I0] s)
 (.block n0 (.loop (.seq (.reg [q49] fun c r s K => binK .lss (r q48) (r q47) fun v0 => K [v0] s)
 (.seq (.cond (.t q49) .skip
 (.exit n0))
 (.seq (.block n1 (.seq (.reg [q13] fun c r s K => K [(r q48)] s)
 (.seq (.reg [] fun c r s K => ixs n1 (r q10) (r q13) fun v0 => ld s v0 fun v1 => c n138 [(r q0), v1, (r q11)] s fun v2 s => ixs n1 (r q10) (r q13) fun v3 => sto s n1 v3 v2 fun s => K [] s)
 (.reg [q11] fun c r s K => c n138 [(r q0), (r q11), (r q12)] s fun v0 s => K [v0] s))))
 (.reg [q48] fun c r s K => binK .add (r q48) I1 fun v0 => K [v0] s)))))))
 (.seq (.reg [q6, q7] fun c r s K => K [(r q10), I0] s)
 .ret))))))))), [(.tmp q6), (.tmp q7)], [q0, q1, q2], [q14, q15, q16, q19, q20, q21, q22, q18, q23, q24, q25, q27, q28, q29, q30, q31, q32, q33, q34, q35, q36, q37, q38, q39, q40, q41, q42, q43, q44, q45, q46, q50, q51, q52, q53, q54, q55, q56, q57, q58, q59, q60, q61, q62, q63, q64, q65, q66]⟩
/- attestor/transform.butterflies -/
noncomputable def cf217 : HF := ⟨
(.seq (.reg [q6] fun c r s K => lnS (r q1) fun v0 => K [v0] s)
 (.seq (.seq (.reg [q16] fun c r s K => binK .eql (r q6) I1 fun v0 => K [v0] s)
 (.cond (.t q16) .ret
 .skip))
 (.seq (.drw [q7, q8] fun c r s K => (fun z m => binK .quo (r q6) I2 fun v0 => binK .quo (r q6) I2 fun v1 => h_op3_sliceS n1 (.c (r q1)) none (some (.c v0)) (some (.c v1)) c r s fun v2 s => binK .quo (r q6) I2 fun v3 => h_op3_sliceS n1 (.c (r q1)) (some (.c v3)) (some (.c (r q6))) (some (.c (r q6))) c r s fun v4 s => K [v2, v4] s) s.next mk0)
 (.seq (.reg [q9] fun c r s K => c n138 [(r q0), (r q2), (r q2)] s fun v0 s => K [v0] s)
 (.seq (.reg [] fun c r s K => c (nat_lit 217) [(r q0), (r q7), (r q9)] s fun v0 s => K [] s)
 (.seq (.reg [] fun c r s K => c (nat_lit 217) [(r q0), (r q8), (r q9)] s fun v0 s => K [] s)
 (.seq (.reg [q10] fun c r s K => K [U1] s)
 (.seq (.reg [q42, q43] fun c r s K => binK .quo (r q6) I2 fun v0 => K [v0, I0] s)
 (.block n0 (.loop (.seq (.reg [q44] fun c r s K => binK .lss (r q43) (r q42) fun v0 => K [v0] s)
 (.seq (.cond (.t q44) .skip
 (.exit n0))
 (.seq (.block n1 (.seq (.reg [q11] fun c r s K => K [(r q43)] s)
 (.seq (.reg [q12] fun c r s K => ixs n1 (r q8) (r q11) fun v0 => ld s v0 fun v1 => c n138 [(r q0), (r q10), v1] s fun v2 s => K [v2] s)
 (.seq (.drw [] fun c r s K => (fun z m => ixs n1 (r q7) (r q11) fun v0 => dL z m (nat_lit 256) (nat_lit 224) s v0 fun v1 m s => dw3 m (nat_lit 1024) (nat_lit 1008) s (fun s q => c n137 [(r q0), v1, (r q12)] s q) fun v2 m s => ixs n1 (r q7) (r q11) fun v3 => dL z m (nat_lit 32768) (nat_lit 28672) s v3 fun v4 m s => dw3 m (nat_lit 131072) (nat_lit 131056) s (fun s q => c (nat_lit 346) [(r q0), v4, (r q12)] s q) fun v5 m s => ixs n1 (r q7) (r q11) fun v6 => dS z m (nat_lit 524288) (nat_lit 524275) s n1 v6 v2 fun _ m s => ixs n1 (r q8) (r q11) fun v8 => dS z m (nat_lit 2097152) (nat_lit 2097151) s n1 v8 v5 fun _ m s => K [] s) s.next mk0)
 (.reg [q10] fun c r s K => c n138 [(r q0), (r q10), (r q2)] s fun v0 s => K [v0] s)))))
 (.reg [q43] fun c r s K => binK .add (r q43) I1 fun v0 => K [v0] s)))))))))))))), [], [q0, q1, q2], [q13, q14, q15, q17, q18, q19, q20, q21, q22, q23, q24, q25, q26, q27, q28, q29, q30, q31, q32, q33, q34, q35, q36, q37, q38, q39, q40, q41, q45, q46, q47, q48, q49, q50, q51, q52, q53, q54, q55, q56, q57, q58, q59, q60, q61, q62, q63, q64, q65, q66, q67, q68, q69, q70, q71, q72, q73, q74, q75, q76, q77]⟩
/- attestor/field.Sub -/
noncomputable def cf346 : HF := ⟨
(.seq (.reg [q6] fun c r s K => K [U0] s)
 (.seq (.reg [q6] fun c r s K => c (nat_lit 393) [(r q0), (r q2)] s fun v0 s => c n137 [(r q0), (r q1), v0] s fun v1 s => K [v1] s)
 .ret)), [(.tmp q6)], [q0, q1, q2], [q7, q8, q9, q10, q11, q12]⟩
/- attestor/field.Neg -/
noncomputable def cf393 : HF := ⟨
(.seq (.reg [q4] fun c r s K => K [U0] s)
 (.seq (.reg [q5] fun c r s K => c n85 [(r q0)] s fun v0 s => K [v0] s)
 (.seq (.seq (.reg [q15] fun c r s K => binK .eql (r q5) U0 fun v0 => mf v0 (r q1) s fun v1 s => mf v0 (r q5) s fun v2 s => jf v0 (binK .rem v1 v2) s fun v3 s => jf v0 (binK .eql v3 U0) s fun v4 s => pck v0 tt v4 fun v5 => K [v5] s)
 (.cond (.t q15) (.seq (.reg [q4] fun c r s K => K [U0] s)
 .ret)
 .skip))
 (.seq (.reg [q4] fun c r s K => binK .rem (r q1) (r q5) fun v0 => binK .sub (r q5) v0 fun v1 => K [v1] s)
 .ret)))), [(.tmp q4)], [q0, q1], [q6, q7, q8, q9, q10, q11, q12, q13, q14, q16, q17, q18, q19, q20]⟩
/- attestor/field.Inv -/
noncomputable def cf218 : HF := ⟨
(.seq (.reg [q4] fun c r s K => K [U0] s)
 (.seq (.reg [q5] fun c r s K => c n85 [(r q0)] s fun v0 s => K [v0] s)
 (.seq (.seq (.reg [q20] fun c r s K => binK .eql (r q5) U0 fun v0 => mf v0 (r q1) s fun v1 s => mf v0 (r q5) s fun v2 s => jf v0 (binK .rem v1 v2) s fun v3 s => jf v0 (binK .eql v3 U0) s fun v4 s => pck v0 tt v4 fun v5 => K [v5] s)
 (.cond (.t q20) (.seq (.reg [q4] fun c r s K => K [U0] s)
 .ret)
 .skip))
 (.seq (.drw [q6, q7] fun c r s K => (fun z m => cnv .i64 (r q5) fun v0 => binK .rem (r q1) (r q5) fun v1 => cnv .i64 v1 fun v2 => K [v0, v2] s) s.next mk0)
 (.seq (.reg [q8, q9] fun c r s K => K [I0, I1] s)
 (.seq (.block n0 (.loop (.seq (.seq (.reg [q28] fun c r s K => binK .neq (r q7) I0 fun v0 => K [v0] s)
 (.cond (.t q28) .skip
 (.exit n0)))
 (.block n1 (.seq (.reg [q10] fun c r s K => binK .quo (r q6) (r q7) fun v0 => K [v0] s)
 (.seq (.reg [q6, q7] fun c r s K => binK .mul (r q10) (r q7) fun v0 => binK .sub (r q6) v0 fun v1 => K [(r q7), v1] s)
 (.reg [q8, q9] fun c r s K => binK .mul (r q10) (r q9) fun v0 => binK .sub (r q8) v0 fun v1 => K [(r q9), v1] s)))))))
 (.seq (.seq (.reg [q45] fun c r s K => binK .lss (r q8) I0 fun v0 => K [v0] s)
 (.cond (.t q45) (.reg [q8] fun c r s K => cnv .i64 (r q5) fun v0 => binK .add (r q8) v0 fun v1 => K [v1] s)
 .skip))
 (.seq (.reg [q4] fun c r s K => cnv .u64 (r q8) fun v0 => K [v0] s)
 .ret)))))))), [(.tmp q4)], [q0, q1], [q11, q12, q13, q14, q15, q16, q17, q18, q19, q21, q22, q23, q24, q25, q26, q27, q29, q30, q31, q32, q33, q34, q35, q36, q37, q38, q39, q40, q41, q42, q43, q44, q46, q47, q48, q49, q50, q51]⟩
/- attestor/field.Root -/
noncomputable def cf200 : HF := ⟨
(.seq (.reg [q4] fun c r s K => K [U0] s)
 (.seq (.reg [q5] fun c r s K => c (nat_lit 180) [(r q0)] s fun v0 s => alc s [zu, zu, zi, zi, zn] fun v1 s => sto s n5 v1 v0 fun s => K [v1] s)
 (.seq (.seq (.reg [q20] fun c r s K => fad n0 (r q5) fun v0 => ld s v0 fun v1 => binK .eql v1 U0 fun v2 => mf v2 (r q1) s fun v3 s => jf v2 (binK .lss v3 I0) s fun v4 s => pck v2 tt v4 fun v5 => mf v5 (r q1) s fun v6 s => jf v5 (fad n2 (r q5)) s fun v7 s => jf v5 (ld s v7) s fun v8 s => jf v5 (binK .gtr v6 v8) s fun v9 s => pck v5 tt v9 fun v10 => K [v10] s)
 (.cond (.t q20) (.seq (.reg [q4] fun c r s K => K [U0] s)
 .ret)
 .skip))
 (.seq (.drw [q4] fun c r s K => (fun z m => fad n1 (r q5) fun v0 => dL z m n4 n2 s v0 fun v1 m s => fad n0 (r q5) fun v2 => dL z m n16 n8 s v2 fun v3 m s => binK .sub v3 U1 fun v4 => xS false v4 (r q1) c r s fun v5 s => dw3 m (nat_lit 256) (nat_lit 255) s (fun s q => c (nat_lit 199) [(r q0), v1, v5] s q) fun v6 m s => K [v6] s) s.next mk0)
 .ret)))), [(.tmp q4)], [q0, q1], [q6, q7, q8, q9, q10, q11, q12, q13, q14, q15, q16, q17, q18, q19, q21, q22, q23, q24, q25, q26, q27, q28, q29]⟩
/- attestor/transform.reordered -/
noncomputable def cf216 : HF := ⟨
(.seq (.reg [q4] fun c r s K => K [(.sc zn)] s)
 (.seq (.reg [q5] fun c r s K => lnS (r q1) fun v0 => cnv .u64 v0 fun v1 => c (nat_lit 340) [v1] s fun v2 s => alc s [zi] fun v3 s => sto s n1 v3 v2 fun s => K [v3] s)
 (.seq (.reg [q6] fun c r s K => h_op4_makeFunc (nat_lit 344) [(.c (r q5))] c r s fun v0 s => K [v0] s)
 (.seq (.reg [q7] fun c r s K => lnS (r q1) fun v0 => xM n1 n8 [zu] v0 v0 c r s fun v1 s => K [v1] s)
 (.seq (.seq (.reg [q18, q19] fun c r s K => lnS (r q1) fun v0 => K [v0, I0] s)
 (.block n0 (.loop (.seq (.reg [q20] fun c r s K => binK .lss (r q19) (r q18) fun v0 => K [v0] s)
 (.seq (.cond (.t q20) .skip
 (.exit n0))
 (.seq (.block n1 (.seq (.reg [q8] fun c r s K => K [(r q19)] s)
 (.reg [] fun c r s K => h_op4_callV (.c (r q6)) [(.c (r q8))] c r s fun v0 s => ixs n1 (r q1) v0 fun v1 => ld s v1 fun v2 => c (nat_lit 214) [(r q0), v2] s fun v3 s => ixs n1 (r q7) (r q8) fun v4 => sto s n1 v4 v3 fun s => K [] s)))
 (.reg [q19] fun c r s K => binK .add (r q19) I1 fun v0 => K [v0] s)))))))
 (.seq (.reg [q4] fun c r s K => K [(r q7)] s)
 .ret)))))), [(.tmp q4)], [q0, q1], [q9, q10, q11, q12, q13, q14, q15, q16, q17, q21, q22, q23, q24, q25, q26, q27, q28, q29, q30, q31, q32, q33, q34]⟩
/- attestor/transform.reordered$1 -/
noncomputable def cf344 : HF := ⟨
(.seq (.reg [q3] fun c r s K => K [I0] s)
 (.seq (.drw [q3] fun c r s K => (fun z m => cnv .u64 (r q0) fun v0 => dw3 m n4 n3 s (fun s q => c (nat_lit 345) [v0] s q) fun v1 m s => dL z m n8 n0 s (r q1) fun v2 m s => binK .sub (i6 n64) v2 fun v3 => xS false v1 v3 c r s fun v4 s => cnv .i64 v4 fun v5 => K [v5] s) s.next mk0)
 .ret)), [(.tmp q3)], [q0, q1], [q4, q5, q6, q7, q8, q9, q10]⟩
/- math/bits.Reverse64 -/
noncomputable def cf345 : HF := ⟨
(.seq (.reg [q2] fun c r s K => K [U0] s)
 (.seq (.reg [q0] fun c r s K => xS false (r q0) U1 c r s fun v0 s => binK .and v0 (u6 (nat_lit 6148914691236517205)) fun v1 => binK .and (r q0) (u6 (nat_lit 6148914691236517205)) fun v2 => xS true v2 U1 c r s fun v3 s => binK .or v1 v3 fun v4 => K [v4] s)
 (.seq (.reg [q0] fun c r s K => xS false (r q0) U2 c r s fun v0 s => binK .and v0 (u6 (nat_lit 3689348814741910323)) fun v1 => binK .and (r q0) (u6 (nat_lit 3689348814741910323)) fun v2 => xS true v2 U2 c r s fun v3 s => binK .or v1 v3 fun v4 => K [v4] s)
 (.seq (.reg [q0] fun c r s K => xS false (r q0) U4 c r s fun v0 s => binK .and v0 (u6 (nat_lit 1085102592571150095)) fun v1 => binK .and (r q0) (u6 (nat_lit 1085102592571150095)) fun v2 => xS true v2 U4 c r s fun v3 s => binK .or v1 v3 fun v4 => K [v4] s)
 (.seq (.reg [q2] fun c r s K => c (nat_lit 392) [(r q0)] s fun v0 s => K [v0] s)
 .ret))))), [(.tmp q2)], [q0], [q3, q4, q5, q6, q7, q8, q9, q10, q11, q12, q13, q14, q15, q16, q17, q18, q19, q20, q21, q22, q23, q24, q25]⟩
/- math/bits.ReverseBytes64 -/
noncomputable def cf392 : HF := ⟨
(.seq (.reg [q2] fun c r s K => K [U0] s)
 (.seq (.reg [q0] fun c r s K => xS false (r q0) U8 c r s fun v0 s => binK .and v0 (u6 (nat_lit 71777214294589695)) fun v1 => binK .and (r q0) (u6 (nat_lit 71777214294589695)) fun v2 => xS true v2 U8 c r s fun v3 s => binK .or v1 v3 fun v4 => K [v4] s)
 (.seq (.reg [q0] fun c r s K => xS false (r q0) U16 c r s fun v0 s => binK .and v0 (u6 (nat_lit 281470681808895)) fun v1 => binK .and (r q0) (u6 (nat_lit 281470681808895)) fun v2 => xS true v2 U16 c r s fun v3 s => binK .or v1 v3 fun v4 => K [v4] s)
 (.seq (.reg [q2] fun c r s K => xS false (r q0) U32 c r s fun v0 s => xS true (r q0) U32 c r s fun v1 s => binK .or v0 v1 fun v2 => K [v2] s)
 .ret)))), [(.tmp q2)], [q0], [q3, q4, q5, q6, q7, q8, q9, q10, q11, q12, q13, q14, q15, q16, q17, q18, q19, q20, q21]⟩
/- attestor/transform.exponent -/
noncomputable def cf215 : HF := ⟨
(.seq (.reg [q4, q5] fun c r s K => K [I0, ff] s)
 (.seq (.seq (.reg [q15] fun c r s K => binK .lss (r q1) I1 fun v0 => mf v0 (r q1) s fun v1 s => mf v0 (r q1) s fun v2 s => jf v0 (binK .sub v2 I1) s fun v3 s => jf v0 (binK .and v1 v3) s fun v4 s => jf v0 (binK .neq v4 I0) s fun v5 s => pck v0 tt v5 fun v6 => K [v6] s)
 (.cond (.t q15) (.seq (.reg [q4, q5] fun c r s K => K [I0, ff] s)
 .ret)
 .skip))
 (.seq (.reg [q6] fun c r s K => cnv .u64 (r q1) fun v0 => c (nat_lit 340) [v0] s fun v1 s => K [v1] s)
 (.seq (.reg [q4, q5] fun c r s K => c (nat_lit 219) [(r q0)] s fun v0 s => binK .leq (r q6) v0 fun v1 => K [(r q6), v1] s)
 .ret)))), [(.tmp q4), (.tmp q5)], [q0, q1], [q7, q8, q9, q10, q11, q12, q13, q14, q16, q17, q18, q19, q20, q21, q22, q23]⟩
/- attestor/transform.greatest -/
noncomputable def cf219 : HF := ⟨
(.seq (.reg [q2] fun c r s K => K [I0] s)
 (.seq (.reg [q2] fun c r s K => c n119 [(r q0)] s fun v0 s => h_op4_minmax false [(.c v0), (.c I18)] c r s fun v1 s => K [v1] s)
 .ret)), [(.tmp q2)], [q0], [q3, q4, q5]⟩
end Go.Proofs.YtebbnkahklbhiaaGreatDoor.Ev
