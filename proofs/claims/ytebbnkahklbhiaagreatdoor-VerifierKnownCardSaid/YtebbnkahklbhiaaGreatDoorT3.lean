/- Compiled functions of the translated program, and that each is what the compiler makes of it; no conditions. -/
import Derived.Test.YtebbnkahklbhiaaGreatDoorEvC
import Derived.KernelRfl
namespace Go.Proofs.YtebbnkahklbhiaaGreatDoor.Ev
set_option maxRecDepth 100000
set_option linter.unusedVariables false
/- attestor/proof.all$1 -/
noncomputable def cf380 : HF := ⟨
(.seq (.drw [q3, q4] fun c r s K => (fun z m => dN z m n1 n0 s n9 (r q1) fun v0 m s => dw3 m n2 n1 s (fun s q => c (nat_lit 381) [v0] s q) fun v1 m s => dN z m n4 n0 s n9 (r q1) fun v2 m s => dw3 m n8 n7 s (fun s q => c (nat_lit 382) [v2] s q) fun v3 m s => dw1 m n16 (fun q => alc s [zi, zi] q) fun v4 m s => dw1 m n32 (fun q => alc s [zi, zi, zi, zi, zi, zi] q) fun v5 m s => dS z m n64 n63 s n2 v4 v1 fun _ m s => dS z m n128 n127 s n6 v5 v3 fun _ m s => K [v4, v5] s) s.next mk0)
 (.seq (.drw [q5] fun c r s K => (fun z m => fad n0 (r q3) fun v0 => dL z m n2 n1 s v0 fun v1 m s => binK .mul I2 v1 fun v2 => h_op3_build [zb, zi, zi, zi] [(n0, n1, (.c B1)), (n3, n1, (.c v2))] c r s fun v3 s => h_op3_build [zb, zi, zi, zi] [(n0, n1, (.c B2)), (n3, n1, (.c I1))] c r s fun v4 s => fad n7 (r q1) fun v5 => dL z m n64 n32 s v5 fun v6 m s => fad n0 (r q3) fun v7 => dL z m (nat_lit 256) n128 s v7 fun v8 m s => binK .mul I2 v8 fun v9 => dw3 m (nat_lit 1024) (nat_lit 992) s (fun s q => c (nat_lit 383) [v6, v9] s q) fun v10 m s => h_op3_build [zb, zi, zi, zi] [(n0, n1, (.c B3)), (n3, n1, (.c v10))] c r s fun v11 s => fad n0 (r q3) fun v12 => dL z m (nat_lit 8192) (nat_lit 4096) s v12 fun v13 m s => binK .mul I2 v13 fun v14 => h_op3_build [zb, zi, zi, zi] [(n0, n1, (.c B4)), (n3, n1, (.c v14))] c r s fun v15 s => dw1 m (nat_lit 65536) (fun q => h_op3_buildS n4 n4 [zb, zi, zi, zi, zb, zi, zi, zi, zb, zi, zi, zi, zb, zi, zi, zi] [(n0, n4, (.c v3)), (n4, n4, (.c v4)), (n8, n4, (.c v11)), (n12, n4, (.c v15))] c r s q) fun v16 m s => K [v16] s) s.next mk0)
 (.seq (.seq (.reg [q37, q38] fun c r s K => lN s n9 (r q1) fun v0 => c (nat_lit 310) [v0] s fun v1 s => K [v1, I0] s)
 (.block n0 (.loop (.seq (.reg [q39] fun c r s K => binK .lss (r q38) (r q37) fun v0 => K [v0] s)
 (.seq (.cond (.t q39) .skip
 (.exit n0))
 (.seq (.block n1 (.seq (.reg [q6] fun c r s K => K [(r q38)] s)
 (.reg [q5] fun c r s K => lN s n9 (r q1) fun v0 => c (nat_lit 384) [v0, (r q6)] s fun v1 s => fld n0 n1 false v1 fun v2 => binK .mul I2 v2 fun v3 => h_op3_build [zb, zi, zi, zi] [(n0, n1, (.c B5)), (n2, n1, (.c (r q6))), (n3, n1, (.c v3))] c r s fun v4 s => h_op3_buildS n1 n4 [zb, zi, zi, zi] [(n0, n4, (.c v4))] c r s fun v5 s => xA n4 n32 (r q5) v5 c r s fun v6 s => K [v6] s)))
 (.reg [q38] fun c r s K => binK .add (r q38) I1 fun v0 => K [v0] s)))))))
 (.seq (.drw [q5] fun c r s K => (fun z m => fad n1 (r q1) fun v0 => dL z m n4 n2 s v0 fun v1 m s => dN z m n8 n0 s n9 (r q1) fun v2 m s => dw3 m n16 n8 s (fun s q => c (nat_lit 310) [v2] s q) fun v3 m s => binK .mul I3 v3 fun v4 => binK .sub v1 v4 fun v5 => xS true I1 v5 c r s fun v6 s => h_op3_build [zb, zi, zi, zi] [(n0, n1, (.c B6)), (n3, n1, (.c v6))] c r s fun v7 s => h_op3_build [zb, zi, zi, zi] [(n0, n1, (.c B7)), (n3, n1, (.c I1))] c r s fun v8 s => dw1 m (nat_lit 1024) (fun q => h_op3_buildS n2 n4 [zb, zi, zi, zi, zb, zi, zi, zi] [(n0, n4, (.c v7)), (n4, n4, (.c v8))] c r s q) fun v9 m s => dw5 z m (nat_lit 2048) (nat_lit 2047) s (.more (.more (.append n4 n32 (.c (r q5)) (.c v9)))) r (fun s q => xA n4 n32 (r q5) v9 c r s q) fun v10 m s => K [v10] s) s.next mk0)
 (.seq (.seq (.reg [q65, q66] fun c r s K => fad n4 (r q1) fun v0 => ld s v0 fun v1 => K [v1, I0] s)
 (.block n2 (.loop (.seq (.reg [q67] fun c r s K => binK .lss (r q66) (r q65) fun v0 => K [v0] s)
 (.seq (.cond (.t q67) .skip
 (.exit n2))
 (.seq (.block n3 (.seq (.reg [q7] fun c r s K => K [(r q66)] s)
 (.seq (.seq (.reg [q69, q70] fun c r s K => lN s n6 (r q4) fun v0 => K [v0, I0] s)
 (.block n4 (.loop (.seq (.reg [q71] fun c r s K => binK .lss (r q70) I6 fun v0 => K [v0] s)
 (.seq (.cond (.t q71) .skip
 (.exit n4))
 (.seq (.block n5 (.seq (.reg [q8, q9] fun c r s K => h_op2_idxV n6 n1 false (.c (r q69)) (.c (r q70)) c r s fun v0 s => K [(r q70), v0] s)
 (.reg [q5] fun c r s K => h_op3_build [zb, zi, zi, zi] [(n0, n1, (.c B8)), (n1, n1, (.c (r q7))), (n2, n1, (.c (r q8))), (n3, n1, (.c (r q9)))] c r s fun v0 s => h_op3_buildS n1 n4 [zb, zi, zi, zi] [(n0, n4, (.c v0))] c r s fun v1 s => xA n4 n32 (r q5) v1 c r s fun v2 s => K [v2] s)))
 (.reg [q70] fun c r s K => binK .add (r q70) I1 fun v0 => K [v0] s)))))))
 (.seq (.seq (.reg [q82, q83] fun c r s K => lN s n6 (r q4) fun v0 => K [v0, I0] s)
 (.block n6 (.loop (.seq (.reg [q84] fun c r s K => binK .lss (r q83) I6 fun v0 => K [v0] s)
 (.seq (.cond (.t q84) .skip
 (.exit n6))
 (.seq (.block n7 (.seq (.reg [q10, q11] fun c r s K => h_op2_idxV n6 n1 false (.c (r q82)) (.c (r q83)) c r s fun v0 s => K [(r q83), v0] s)
 (.reg [q5] fun c r s K => fad n1 (r q3) fun v0 => ld s v0 fun v1 => binK .mul I2 v1 fun v2 => c (nat_lit 383) [(r q11), v2] s fun v3 s => h_op3_build [zb, zi, zi, zi] [(n0, n1, (.c B9)), (n1, n1, (.c (r q7))), (n2, n1, (.c (r q10))), (n3, n1, (.c v3))] c r s fun v4 s => h_op3_buildS n1 n4 [zb, zi, zi, zi] [(n0, n4, (.c v4))] c r s fun v5 s => xA n4 n32 (r q5) v5 c r s fun v6 s => K [v6] s)))
 (.reg [q83] fun c r s K => binK .add (r q83) I1 fun v0 => K [v0] s)))))))
 (.seq (.reg [q100, q101] fun c r s K => lN s n9 (r q1) fun v0 => c (nat_lit 310) [v0] s fun v1 s => K [v1, I0] s)
 (.block n8 (.loop (.seq (.reg [q102] fun c r s K => binK .lss (r q101) (r q100) fun v0 => K [v0] s)
 (.seq (.cond (.t q102) .skip
 (.exit n8))
 (.seq (.block n9 (.seq (.reg [q12] fun c r s K => K [(r q101)] s)
 (.reg [q5] fun c r s K => h_op3_build [zb, zi, zi, zi] [(n0, n1, (.c B10)), (n1, n1, (.c (r q7))), (n2, n1, (.c (r q12))), (n3, n1, (.c I8))] c r s fun v0 s => lN s n9 (r q1) fun v1 => c (nat_lit 384) [v1, (r q12)] s fun v2 s => fld n1 n1 false v2 fun v3 => binK .mul I2 v3 fun v4 => h_op3_build [zb, zi, zi, zi] [(n0, n1, (.c B11)), (n1, n1, (.c (r q7))), (n2, n1, (.c (r q12))), (n3, n1, (.c v4))] c r s fun v5 s => h_op3_buildS n2 n4 [zb, zi, zi, zi, zb, zi, zi, zi] [(n0, n4, (.c v0)), (n4, n4, (.c v5))] c r s fun v6 s => xA n4 n32 (r q5) v6 c r s fun v7 s => K [v7] s)))
 (.reg [q101] fun c r s K => binK .add (r q101) I1 fun v0 => K [v0] s)))))))))))
 (.reg [q66] fun c r s K => binK .add (r q66) I1 fun v0 => K [v0] s)))))))
 (.seq (.reg [q120, q121, q122] fun c r s K => lnS (r q5) fun v0 => K [(r q5), v0, I0] s)
 (.block n10 (.loop (.seq (.reg [q123] fun c r s K => binK .lss (r q122) (r q121) fun v0 => K [v0] s)
 (.seq (.cond (.t q123) .skip
 (.exit n10))
 (.seq (.block n11 (.seq (.reg [q14] fun c r s K => ixs n4 (r q120) (r q122) fun v0 => lN s n4 v0 fun v1 => alc s [zb, zi, zi, zi] fun v2 s => sto s n4 v2 v1 fun s => K [v2] s)
 (.seq (.reg [q129] fun c r s K => lN s n4 (r q14) fun v0 => h_op4_callV (.c (r q0)) [(.c v0)] c r s fun v1 s => nott v1 fun v2 => K [v2] s)
 (.cond (.t q129) .ret
 .skip))))
 (.reg [q122] fun c r s K => binK .add (r q122) I1 fun v0 => K [v0] s)))))))))))), [], [q0, q1], [q15, q16, q17, q18, q19, q20, q21, q22, q23, q24, q25, q26, q27, q28, q29, q30, q31, q32, q33, q34, q35, q36, q40, q41, q42, q43, q44, q45, q46, q47, q48, q49, q50, q51, q52, q53, q54, q55, q56, q57, q58, q59, q60, q61, q62, q63, q64, q68, q72, q73, q74, q75, q76, q77, q78, q79, q80, q81, q85, q86, q87, q88, q89, q90, q91, q92, q93, q94, q95, q96, q97, q98, q99, q103, q104, q105, q106, q107, q108, q109, q110, q111, q112, q113, q114, q115, q116, q117, q118, q119, q124, q125, q126, q127, q128, q130]⟩
/- attestor/proof.folded -/
noncomputable def cf384 : HF := ⟨
(.seq (.reg [q2, q4] fun c r s K => bxx s (r q0) fun v0 s => alc s [zi, zi] fun v1 s => K [v0, v1] s)
 (.seq (.reg [] fun c r s K => lN s n9 (r q2) fun v0 => fad n1 (r q2) fun v1 => ld s v1 fun v2 => fad n2 (r q2) fun v3 => ld s v3 fun v4 => binK .add v2 v4 fun v5 => binK .add (r q1) I1 fun v6 => binK .mul I3 v6 fun v7 => binK .sub v5 v7 fun v8 => c (nat_lit 402) [v0, v8] s fun v9 s => sto s n2 (r q4) v9 fun s => K [] s)
 .ret)), [(.cellN n2 q4)], [q0, q1], [q5, q6, q7, q8, q9, q10, q11, q12, q13, q14, q15]⟩
/- attestor/proof.treeOf -/
noncomputable def cf402 : HF := ⟨
(.seq (.reg [q2, q4] fun c r s K => bxx s (r q0) fun v0 s => alc s [zi, zi] fun v1 s => K [v0, v1] s)
 (.seq (.reg [q5] fun c r s K => fad n3 (r q2) fun v0 => ld s v0 fun v1 => h_op4_minmax false [(.c v1), (.c (r q1))] c r s fun v2 s => K [v2] s)
 (.seq (.reg [] fun c r s K => xS true I1 (r q5) c r s fun v0 s => binK .sub (r q1) (r q5) fun v1 => h_op3_build [zi, zi] [(n0, n1, (.c v0)), (n1, n1, (.c v1))] c r s fun v2 s => sto s n2 (r q4) v2 fun s => K [] s)
 .ret))), [(.cellN n2 q4)], [q0, q1], [q6, q7, q8, q9, q10, q11, q12, q13, q14, q15]⟩
/- attestor/proof.rounds -/
noncomputable def cf310 : HF := ⟨
(.seq (.reg [q1, q2] fun c r s K => bxx s (r q0) fun v0 s => K [v0, I0] s)
 (.seq (.reg [q2] fun c r s K => fad n1 (r q1) fun v0 => ld s v0 fun v1 => binK .quo v1 I3 fun v2 => K [v2] s)
 .ret)), [(.tmp q2)], [q0], [q3, q4, q5]⟩
/- attestor/proof.present -/
noncomputable def cf383 : HF := ⟨
(.seq (.reg [q4] fun c r s K => K [I0] s)
 (.seq (.seq (.reg [q6] fun c r s K => binK .eql (r q0) I0 fun v0 => K [v0] s)
 (.cond (.t q6) (.seq (.reg [q4] fun c r s K => K [I0] s)
 .ret)
 .skip))
 (.seq (.reg [q4] fun c r s K => K [(r q1)] s)
 .ret))), [(.tmp q4)], [q0, q1], [q5, q7]⟩
/- attestor/proof.columns -/
noncomputable def cf382 : HF := ⟨
(.seq (.reg [q1, q2] fun c r s K => bxx s (r q0) fun v0 s => alc s [zi, zi, zi, zi, zi, zi] fun v1 s => K [v0, v1] s)
 (.seq (.reg [] fun c r s K => fad n5 (r q1) fun v0 => ld s v0 fun v1 => fad n6 (r q1) fun v2 => ld s v2 fun v3 => fad n7 (r q1) fun v4 => ld s v4 fun v5 => fad n8 (r q1) fun v6 => ld s v6 fun v7 => fad n6 (r q1) fun v8 => ld s v8 fun v9 => fad n7 (r q1) fun v10 => ld s v10 fun v11 => h_op3_build [zi, zi, zi, zi, zi, zi] [(n0, n1, (.c v1)), (n1, n1, (.c v3)), (n2, n1, (.c v5)), (n3, n1, (.c v7)), (n4, n1, (.c v9)), (n5, n1, (.c v11))] c r s fun v12 s => sto s n6 (r q2) v12 fun s => K [] s)
 .ret)), [(.cellN n6 q2)], [q0], [q3, q4, q5, q6, q7, q8, q9, q10, q11, q12, q13, q14, q15]⟩
/- attestor/proof.wide -/
noncomputable def cf381 : HF := ⟨
(.seq (.reg [q1, q2] fun c r s K => bxx s (r q0) fun v0 s => alc s [zi, zi] fun v1 s => K [v0, v1] s)
 (.seq (.reg [] fun c r s K => lN s n9 (r q1) fun v0 => fad n1 (r q1) fun v1 => ld s v1 fun v2 => fad n2 (r q1) fun v3 => ld s v3 fun v4 => binK .add v2 v4 fun v5 => c (nat_lit 402) [v0, v5] s fun v6 s => sto s n2 (r q2) v6 fun s => K [] s)
 .ret)), [(.cellN n2 q2)], [q0], [q3, q4, q5, q6, q7, q8, q9]⟩
/- attestor/proof.blank -/
noncomputable def cf207 : HF := ⟨
(.seq (.reg [q1, q2] fun c r s K => bxx s (r q0) fun v0 s => alc s [zn, zn, zn, zu, zn, zn, zu, zn] fun v1 s => K [v0, v1] s)
 (.seq (.drw [q3] fun c r s K => (fun z m => dN z m n1 n0 s n9 (r q1) fun v0 m s => dw3 m n2 n1 s (fun s q => c (nat_lit 310) [v0] s q) fun v1 m s => fad n4 (r q1) fun v2 => dL z m n16 n8 s v2 fun v3 m s => dw1 m n4 (fun q => xM n1 n24 [zn] v1 v1 c r s q) fun v4 m s => dw1 m n32 (fun q => xM n13 (nat_lit 312) [zn, zn, zn, zn, zn, zn, zn, zn, zn, zn, zn, zn, zn] v3 v3 c r s q) fun v5 m s => h_op3_build [zn, zn, zn, zu, zn, zn, zu, zn] [(n4, n1, (.c v4)), (n7, n1, (.c v5))] c r s fun v6 s => dw1 m n128 (fun q => alc s [zn, zn, zn, zu, zn, zn, zu, zn] q) fun v7 m s => dS z m (nat_lit 256) (nat_lit 255) s n8 v7 v6 fun _ m s => K [v7] s) s.next mk0)
 (.seq (.seq (.reg [q14, q15] fun c r s K => fad n7 (r q3) fun v0 => ld s v0 fun v1 => lnS v1 fun v2 => K [v2, I0] s)
 (.block n0 (.loop (.seq (.reg [q16] fun c r s K => binK .lss (r q15) (r q14) fun v0 => K [v0] s)
 (.seq (.cond (.t q16) .skip
 (.exit n0))
 (.seq (.block n1 (.seq (.reg [q4] fun c r s K => K [(r q15)] s)
 (.drw [] fun c r s K => (fun z m => fad n7 (r q3) fun v0 => dL z m n2 n1 s v0 fun v1 m s => dN z m n8 n0 s n9 (r q1) fun v2 m s => dw3 m n16 n8 s (fun s q => c (nat_lit 310) [v2] s q) fun v3 m s => dw1 m n32 (fun q => xM n9 n88 [zu, zu, zu, zu, zu, zu, zu, zu, zn] v3 v3 c r s q) fun v4 m s => ixs n13 v1 (r q4) fun v5 => fad n12 v5 fun v6 => dS z m (nat_lit 256) (nat_lit 255) s n1 v6 v4 fun _ m s => K [] s) s.next mk0)))
 (.reg [q15] fun c r s K => binK .add (r q15) I1 fun v0 => K [v0] s)))))))
 (.seq (.reg [] fun c r s K => lN s n8 (r q3) fun v0 => sto s n8 (r q2) v0 fun s => K [] s)
 .ret)))), [(.cellN n8 q2)], [q0], [q5, q6, q8, q9, q7, q10, q11, q12, q13, q17, q18, q19, q20, q21, q22, q23, q24, q25, q26, q27]⟩
/- attestor/proof.Valid -/
noncomputable def cf206 : HF := ⟨
(.seq (.reg [q1, q2] fun c r s K => bxx s (r q0) fun v0 s => K [v0, ff] s)
 (.seq (.block n0 (.seq (.drw [q3] fun c r s K => (fun z m => fad n0 (r q1) fun v0 => dL z m n2 n1 s v0 fun v1 m s => dw3 m n4 n3 s (fun s q => c (nat_lit 181) [v1] s q) fun v2 m s => nott v2 fun v3 => jnD false v3 (fun jj => fad n1 (r q1) fun v => jj v m s) m s fun v4 m s => jnD false v3 (fun jj => dL z m n64 n63 s v4 jj) m s fun v5 m s => jnD false v3 (fun jj => dw3 m n128 n127 s (fun s q => c (nat_lit 324) [v5, I1, I13] s q) jj) m s fun v6 m s => jnD false v3 (fun jj => nott v6 fun v => jj v m s) m s fun v7 m s => pck v3 tt v7 fun v8 => jnD false v8 (fun jj => fad n2 (r q1) fun v => jj v m s) m s fun v9 m s => jnD false v8 (fun jj => dL z m (nat_lit 4096) (nat_lit 4095) s v9 jj) m s fun v10 m s => jnD false v8 (fun jj => dw3 m (nat_lit 8192) (nat_lit 8191) s (fun s q => c (nat_lit 324) [v10, I1, I5] s q) jj) m s fun v11 m s => jnD false v8 (fun jj => nott v11 fun v => jj v m s) m s fun v12 m s => pck v8 tt v12 fun v13 => jnD false v13 (fun jj => fad n1 (r q1) fun v => jj v m s) m s fun v14 m s => jnD false v13 (fun jj => dL z m (nat_lit 262144) (nat_lit 262143) s v14 jj) m s fun v15 m s => jnD false v13 (fun jj => fad n2 (r q1) fun v => jj v m s) m s fun v16 m s => jnD false v13 (fun jj => dL z m (nat_lit 1048576) (nat_lit 655359) s v16 jj) m s fun v17 m s => jnD false v13 (fun jj => binK .add v15 v17 fun v => jj v m s) m s fun v18 m s => jnD false v13 (fun jj => fad n0 (r q1) fun v => jj v m s) m s fun v19 m s => jnD false v13 (fun jj => dL z m (nat_lit 8388608) (nat_lit 4325375) s v19 jj) m s fun v20 m s => jnD false v13 (fun jj => dw3 m (nat_lit 16777216) (nat_lit 12713983) s (fun s q => c n119 [v20] s q) jj) m s fun v21 m s => jnD false v13 (fun jj => binK .gtr v18 v21 fun v => jj v m s) m s fun v22 m s => pck v13 tt v22 fun v23 => K [v23] s) s.next mk0)
 (.cond (.t q3) (.seq (.reg [q2] fun c r s K => K [ff] s)
 .ret)
 (.seq (.reg [q31] fun c r s K => fad n3 (r q1) fun v0 => ld s v0 fun v1 => c (nat_lit 324) [v1, I0, I8] s fun v2 s => nott v2 fun v3 => jf v3 (fad n4 (r q1)) s fun v4 s => jf v3 (ld s v4) s fun v5 s => jn false v3 (fun j => c (nat_lit 324) [v5, I1, (i6 n64)] s j) s fun v6 s => jf v3 (nott v6) s fun v7 s => pck v3 tt v7 fun v8 => K [v8] s)
 (.cond (.t q31) (.seq (.reg [q2] fun c r s K => K [ff] s)
 .ret)
 .skip)))))
 (.seq (.reg [q2] fun c r s K => fad n5 (r q1) fun v0 => ld s v0 fun v1 => c (nat_lit 324) [v1, I0, (i6 n64)] s fun v2 s => jt v2 (fad n6 (r q1)) s fun v3 s => jt v2 (ld s v3) s fun v4 s => jn true v2 (fun j => c (nat_lit 324) [v4, I1, (i6 n64)] s j) s fun v5 s => pck v2 v5 ff fun v6 => jt v6 (fad n7 (r q1)) s fun v7 s => jt v6 (ld s v7) s fun v8 s => jn true v6 (fun j => c (nat_lit 324) [v8, I0, I16] s j) s fun v9 s => pck v6 v9 ff fun v10 => jt v10 (fad n8 (r q1)) s fun v11 s => jt v10 (ld s v11) s fun v12 s => jn true v10 (fun j => c (nat_lit 324) [v12, I1, I16] s j) s fun v13 s => pck v10 v13 ff fun v14 => K [v14] s)
 .ret))), [(.tmp q2)], [q0], [q4, q5, q6, q7, q8, q9, q10, q11, q12, q13, q14, q15, q16, q17, q18, q19, q20, q21, q22, q23, q24, q25, q26, q27, q28, q29, q30, q32, q33, q34, q35, q36, q37, q38, q39, q40, q41, q42, q43, q44, q45, q46, q47, q48, q49, q50, q51, q52, q53, q54, q55, q56, q57, q58, q59]⟩
/- attestor/proof.within -/
noncomputable def cf324 : HF := ⟨
(.seq (.reg [q6] fun c r s K => K [ff] s)
 (.seq (.reg [q6] fun c r s K => binK .geq (r q0) (r q1) fun v0 => mt v0 (r q0) s fun v1 s => mt v0 (r q2) s fun v2 s => jt v0 (binK .leq v1 v2) s fun v3 s => pck v0 v3 ff fun v4 => K [v4] s)
 .ret)), [(.tmp q6)], [q0, q1, q2], [q7, q8, q9, q10, q11, q12, q13, q14]⟩
/- attestor/prover.Shape -/
noncomputable def cf21 : HF := ⟨
(.seq (.reg [q1, q2, q3] fun c r s K => bxx s (r q0) fun v0 s => alc s [zi, zi, zi, zi, zi, zi, zi, zi, zi] fun v1 s => K [v0, v1, I0] s)
 (.seq (.reg [q4, q5] fun c r s K => lN s n14 (r q1) fun v0 => c n78 [v0] s fun v1 s => xE n0 v1 c r s fun v2 s => xE n1 v1 c r s fun v3 s => alc s [zi, zi, zi, zi, zn, zn, zn, zn] fun v4 s => sto s n8 v4 v2 fun s => K [v4, v3] s)
 (.seq (.seq (.reg [q12] fun c r s K => nott (r q5) fun v0 => K [v0] s)
 (.cond (.t q12) (.seq (.reg [q3] fun c r s K => h_op3_build [zi, zi, zi, zi, zi, zi, zi, zi, zi] [] c r s fun v0 s => sto s n9 (r q2) v0 fun s => K [I1] s)
 .ret)
 .skip))
 (.seq (.drw [q3] fun c r s K => (fun z m => fad n0 (r q4) fun v0 => dL z m n2 n1 s v0 fun v1 m s => fad n1 (r q4) fun v2 => dL z m n8 n4 s v2 fun v3 m s => fad n0 (r q1) fun v4 => fad n0 v4 fun v5 => dL z m n64 n48 s v5 fun v6 m s => fad n0 (r q1) fun v7 => fad n1 v7 fun v8 => dL z m (nat_lit 512) (nat_lit 384) s v8 fun v9 m s => fad n0 (r q1) fun v10 => fad n2 v10 fun v11 => dL z m (nat_lit 4096) (nat_lit 3072) s v11 fun v12 m s => fad n12 (r q1) fun v13 => dL z m (nat_lit 16384) (nat_lit 8192) s v13 fun v14 m s => fad n2 (r q4) fun v15 => dL z m (nat_lit 65536) (nat_lit 32768) s v15 fun v16 m s => dN z m (nat_lit 131072) n0 s n8 (r q4) fun v17 m s => dw3 m (nat_lit 262144) (nat_lit 131072) s (fun s q => c n79 [v17] s q) fun v18 m s => dN z m (nat_lit 524288) n0 s n8 (r q4) fun v19 m s => dw3 m (nat_lit 1048576) (nat_lit 917504) s (fun s q => c n80 [v19] s q) fun v20 m s => h_op3_build [zi, zi, zi, zi, zi, zi, zi, zi, zi] [(n0, n1, (.c v1)), (n1, n1, (.c v3)), (n2, n1, (.c v6)), (n3, n1, (.c v9)), (n4, n1, (.c v12)), (n5, n1, (.c v14)), (n6, n1, (.c v16)), (n7, n1, (.c v18)), (n8, n1, (.c v20))] c r s fun v21 s => dS z m (nat_lit 4194304) (nat_lit 4194303) s n9 (r q2) v21 fun _ m s => K [I0] s) s.next mk0)
 .ret)))), [(.cellN n9 q2), (.tmp q3)], [q0], [q7, q8, q6, q9, q10, q11, q13, q14, q15, q16, q17, q18, q19, q20, q21, q22, q23, q24, q25, q26, q27, q28, q29, q30, q31, q32, q33, q34, q35]⟩
/- attestor/verifier.Verify -/
noncomputable def cf34 : HF := ⟨
(.seq (.reg [q3, q5, q6] fun c r s K => bxx s (r q0) fun v0 s => bxx s (r q2) fun v1 s => K [v0, v1, I0] s)
 (.seq (.reg [q7, q8] fun c r s K => lN s n14 (r q3) fun v0 => lN s n8 (r q5) fun v1 => c n100 [v0, (r q1), v1] s fun v2 s => xE n0 v2 c r s fun v3 s => xE n1 v2 c r s fun v4 s => alc s [zn, zu, zu, zn, (.bool false), zn] fun v5 s => sto s n6 v5 v3 fun s => K [v5, v4] s)
 (.seq (.block n0 (.seq (.reg [q18] fun c r s K => binK .neq (r q8) I0 fun v0 => K [v0] s)
 (.cond (.t q18) (.seq (.reg [q6] fun c r s K => K [(r q8)] s)
 .ret)
 (.seq (.reg [q22] fun c r s K => fad n4 (r q7) fun v0 => ld s v0 fun v1 => nott v1 fun v2 => K [v2] s)
 (.cond (.t q22) (.seq (.reg [q6] fun c r s K => K [I14] s)
 .ret)
 .skip)))))
 (.seq (.seq (.reg [q28, q29] fun c r s K => fad n7 (r q5) fun v0 => ld s v0 fun v1 => lnS v1 fun v2 => K [v2, I0] s)
 (.block n1 (.loop (.seq (.reg [q30] fun c r s K => binK .lss (r q29) (r q28) fun v0 => K [v0] s)
 (.seq (.cond (.t q30) .skip
 (.exit n1))
 (.seq (.block n2 (.seq (.reg [q9] fun c r s K => K [(r q29)] s)
 (.seq (.reg [q10] fun c r s K => lN s n14 (r q3) fun v0 => lN s n8 (r q5) fun v1 => lN s n6 (r q7) fun v2 => c n101 [v0, (r q1), v1, v2, (r q9)] s fun v3 s => K [v3] s)
 (.seq (.reg [q39] fun c r s K => binK .neq (r q10) I0 fun v0 => K [v0] s)
 (.cond (.t q39) (.seq (.reg [q6] fun c r s K => K [(r q10)] s)
 .ret)
 .skip)))))
 (.reg [q29] fun c r s K => binK .add (r q29) I1 fun v0 => K [v0] s)))))))
 (.seq (.reg [q6] fun c r s K => K [I0] s)
 .ret))))), [(.tmp q6)], [q0, q1, q2], [q12, q13, q14, q15, q11, q16, q17, q19, q20, q21, q23, q24, q25, q26, q27, q31, q32, q33, q34, q35, q36, q37, q38, q40, q41]⟩
/- attestor/verifier.opens -/
noncomputable def cf101 : HF := ⟨
(.seq (.reg [q5, q7, q8, q10] fun c r s K => bxx s (r q0) fun v0 s => bxx s (r q2) fun v1 s => bxx s (r q3) fun v2 s => K [v0, v1, v2, I0] s)
 (.seq (.reg [q11] fun c r s K => lN s n14 (r q5) fun v0 => c (nat_lit 196) [v0] s fun v1 s => alc s [zi, zi, zi, zi, zn, zn, zn, zn] fun v2 s => sto s n8 v2 v1 fun s => K [v2] s)
 (.seq (.drw [q12, q13] fun c r s K => (fun z m => fad n0 (r q11) fun v0 => dL z m n2 n1 s v0 fun v1 m s => fad n1 (r q11) fun v2 => dL z m n8 n4 s v2 fun v3 m s => fad n0 (r q5) fun v4 => fad n0 v4 fun v5 => dL z m n64 n48 s v5 fun v6 m s => binK .add v3 v6 fun v7 => dw1 m (nat_lit 256) (fun q => alc s [zi] q) fun v8 m s => dw1 m (nat_lit 512) (fun q => alc s [zi] q) fun v9 m s => dS z m (nat_lit 1024) (nat_lit 771) s n1 v8 v1 fun _ m s => dS z m (nat_lit 2048) (nat_lit 2047) s n1 v9 v7 fun _ m s => K [v8, v9] s) s.next mk0)
 (.seq (.drw [q14, q15] fun c r s K => (fun z m => fad n7 (r q7) fun v0 => dL z m n2 n1 s v0 fun v1 m s => ixs n13 v1 (r q4) fun v2 => dN z m n16 n15 s n13 v2 fun v3 m s => fad n5 (r q8) fun v4 => dL z m n64 n32 s v4 fun v5 m s => ixs n1 v5 (r q4) fun v6 => dL z m (nat_lit 512) (nat_lit 480) s v6 fun v7 m s => dw1 m (nat_lit 1024) (fun q => alc s [zn, zn, zn, zn, zn, zn, zn, zn, zn, zn, zn, zn, zn] q) fun v8 m s => dw1 m (nat_lit 2048) (fun q => alc s [zi] q) fun v9 m s => dS z m (nat_lit 4096) (nat_lit 3103) s n13 v8 v3 fun _ m s => dS z m (nat_lit 8192) (nat_lit 8191) s n1 v9 v7 fun _ m s => K [v8, v9] s) s.next mk0)
 (.seq (.drw [q16] fun c r s K => (fun z m => dL z m n1 n0 s (r q15) fun v0 m s => fad n0 (r q5) fun v1 => fad n0 v1 fun v2 => dL z m n8 n6 s v2 fun v3 m s => xS true I1 v3 c r s fun v4 s => binK .add v0 v4 fun v5 => dL z m n64 n0 s (r q13) fun v6 m s => xS true I1 v6 c r s fun v7 s => binK .rem v5 v7 fun v8 => K [v8] s) s.next mk0)
 (.seq (.reg [q17] fun c r s K => fad n1 (r q7) fun v0 => ld s v0 fun v1 => lnS v1 fun v2 => binK .gtr v2 I0 fun v3 => K [v3] s)
 (.seq (.reg [q18] fun c r s K => fad n12 (r q5) fun v0 => ld s v0 fun v1 => binK .gtr v1 I0 fun v2 => fad n13 (r q5) fun v3 => ld s v3 fun v4 => ld s (r q15) fun v5 => fad n0 (r q14) fun v6 => ld s v6 fun v7 => fad n6 (r q14) fun v8 => ld s v8 fun v9 => h_op3_build [(.bool false), zn, zi, zn, zn] [(n0, n1, (.c v2)), (n1, n1, (.c v4)), (n2, n1, (.c v5)), (n3, n1, (.c v7)), (n4, n1, (.c v9))] c r s fun v10 s => fad n0 (r q7) fun v11 => ld s v11 fun v12 => ld s (r q15) fun v13 => fad n1 (r q14) fun v14 => ld s v14 fun v15 => fad n7 (r q14) fun v16 => ld s v16 fun v17 => h_op3_build [(.bool false), zn, zi, zn, zn] [(n0, n1, (.c tt)), (n1, n1, (.c v12)), (n2, n1, (.c v13)), (n3, n1, (.c v15)), (n4, n1, (.c v17))] c r s fun v18 s => fad n1 (r q7) fun v19 => ld s v19 fun v20 => ld s (r q15) fun v21 => fad n2 (r q14) fun v22 => ld s v22 fun v23 => fad n8 (r q14) fun v24 => ld s v24 fun v25 => h_op3_build [(.bool false), zn, zi, zn, zn] [(n0, n1, (.c (r q17))), (n1, n1, (.c v20)), (n2, n1, (.c v21)), (n3, n1, (.c v23)), (n4, n1, (.c v25))] c r s fun v26 s => fad n2 (r q7) fun v27 => ld s v27 fun v28 => ld s (r q15) fun v29 => fad n3 (r q14) fun v30 => ld s v30 fun v31 => fad n9 (r q14) fun v32 => ld s v32 fun v33 => h_op3_build [(.bool false), zn, zi, zn, zn] [(n0, n1, (.c tt)), (n1, n1, (.c v28)), (n2, n1, (.c v29)), (n3, n1, (.c v31)), (n4, n1, (.c v33))] c r s fun v34 s => fad n0 (r q7) fun v35 => ld s v35 fun v36 => fad n4 (r q14) fun v37 => ld s v37 fun v38 => fad n10 (r q14) fun v39 => ld s v39 fun v40 => h_op3_build [(.bool false), zn, zi, zn, zn] [(n0, n1, (.c tt)), (n1, n1, (.c v36)), (n2, n1, (.c (r q16))), (n3, n1, (.c v38)), (n4, n1, (.c v40))] c r s fun v41 s => fad n1 (r q7) fun v42 => ld s v42 fun v43 => fad n5 (r q14) fun v44 => ld s v44 fun v45 => fad n11 (r q14) fun v46 => ld s v46 fun v47 => h_op3_build [(.bool false), zn, zi, zn, zn] [(n0, n1, (.c (r q17))), (n1, n1, (.c v43)), (n2, n1, (.c (r q16))), (n3, n1, (.c v45)), (n4, n1, (.c v47))] c r s fun v48 s => h_op3_buildS n6 n5 [(.bool false), zn, zi, zn, zn, (.bool false), zn, zi, zn, zn, (.bool false), zn, zi, zn, zn, (.bool false), zn, zi, zn, zn, (.bool false), zn, zi, zn, zn, (.bool false), zn, zi, zn, zn] [(n0, n5, (.c v10)), (n5, n5, (.c v18)), (n10, n5, (.c v26)), (n15, n5, (.c v34)), (n20, n5, (.c v41)), (n25, n5, (.c v48))] c r s fun v49 s => K [v49] s)
 (.seq (.seq (.reg [q121, q122] fun c r s K => lnS (r q18) fun v0 => K [v0, I0] s)
 (.block n0 (.loop (.seq (.reg [q123] fun c r s K => binK .lss (r q122) (r q121) fun v0 => K [v0] s)
 (.seq (.cond (.t q123) .skip
 (.exit n0))
 (.seq (.block n1 (.seq (.reg [q19] fun c r s K => K [(r q122)] s)
 (.seq (.reg [q20] fun c r s K => ixs n5 (r q18) (r q19) fun v0 => lN s n5 v0 fun v1 => alc s [(.bool false), zn, zi, zn, zn] fun v2 s => sto s n5 v2 v1 fun s => K [v2] s)
 (.seq (.drw [q145] fun c r s K => (fun z m => fad n0 (r q20) fun v0 => dL z m n2 n1 s v0 fun v1 m s => jnD true v1 (fun jj => dL z m n8 n7 s (r q12) jj) m s fun v2 m s => jnD true v1 (fun jj => fad n1 (r q20) fun v => jj v m s) m s fun v3 m s => jnD true v1 (fun jj => dL z m n32 n23 s v3 jj) m s fun v4 m s => jnD true v1 (fun jj => fad n2 (r q20) fun v => jj v m s) m s fun v5 m s => jnD true v1 (fun jj => dL z m n128 n71 s v5 jj) m s fun v6 m s => jnD true v1 (fun jj => dL z m (nat_lit 256) n7 s (r q12) jj) m s fun v7 m s => jnD true v1 (fun jj => fad n3 (r q20) fun v => jj v m s) m s fun v8 m s => jnD true v1 (fun jj => dL z m (nat_lit 1024) (nat_lit 519) s v8 jj) m s fun v9 m s => jnD true v1 (fun jj => dw3 m (nat_lit 2048) (nat_lit 1799) s (fun s q => c n89 [v7, v9] s q) jj) m s fun v10 m s => jnD true v1 (fun jj => fad n4 (r q20) fun v => jj v m s) m s fun v11 m s => jnD true v1 (fun jj => dL z m (nat_lit 8192) (nat_lit 4103) s v11 jj) m s fun v12 m s => jnD true v1 (fun jj => dw3 m (nat_lit 16384) (nat_lit 16383) s (fun s q => c (nat_lit 197) [v2, v4, v6, v10, v12] s q) jj) m s fun v13 m s => jnD true v1 (fun jj => nott v13 fun v => jj v m s) m s fun v14 m s => pck v1 v14 ff fun v15 => K [v15] s) s.next mk0)
 (.cond (.t q145) (.seq (.reg [q10] fun c r s K => K [I13] s)
 .ret)
 .skip)))))
 (.reg [q122] fun c r s K => binK .add (r q122) I1 fun v0 => K [v0] s)))))))
 (.seq (.reg [q21] fun c r s K => h_op4_makeFunc (nat_lit 198) [(.c (r q12)), (.c (r q13)), (.c (r q15))] c r s fun v0 s => K [v0] s)
 (.seq (.reg [q22] fun c r s K => h_op4_callV (.c (r q21)) [] c r s fun v0 s => K [v0] s)
 (.seq (.reg [q23] fun c r s K => fad n1 (r q14) fun v0 => ld s v0 fun v1 => fad n4 (r q14) fun v2 => ld s v2 fun v3 => fad n0 (r q14) fun v4 => ld s v4 fun v5 => fad n2 (r q14) fun v6 => ld s v6 fun v7 => fad n5 (r q14) fun v8 => ld s v8 fun v9 => fad n0 (r q8) fun v10 => ld s v10 fun v11 => h_op3_build [zn, zn, zn, zn, zn, zn, zn] [(n0, n1, (.c v1)), (n1, n1, (.c v3)), (n2, n1, (.c v5)), (n3, n1, (.c (r q1))), (n4, n1, (.c v7)), (n5, n1, (.c v9)), (n6, n1, (.c v11))] c r s fun v12 s => alc s [zn, zn, zn, zn, zn, zn, zn] fun v13 s => sto s n7 v13 v12 fun s => K [v13] s)
 (.seq (.reg [q24] fun c r s K => lN s n8 (r q11) fun v0 => lN s n7 (r q23) fun v1 => fad n1 (r q8) fun v2 => ld s v2 fun v3 => c (nat_lit 201) [v0, v1, (r q22), v3] s fun v4 s => xE n0 v4 c r s fun v5 s => xE n1 v4 c r s fun v6 s => K [v5] s)
 (.seq (.seq (.reg [q181] fun c r s K => ld s (r q12) fun v0 => fad n1 (r q11) fun v1 => ld s v1 fun v2 => fad n3 (r q14) fun v3 => ld s v3 fun v4 => c (nat_lit 202) [v0, v2, v4, (r q22)] s fun v5 s => binK .neq (r q24) v5 fun v6 => K [v6] s)
 (.cond (.t q181) (.seq (.reg [q10] fun c r s K => K [I15] s)
 .ret)
 .skip))
 (.seq (.reg [q26] fun c r s K => lN s n14 (r q5) fun v0 => c n26 [v0] s fun v1 s => xE n0 v1 c r s fun v2 s => xE n1 v1 c r s fun v3 s => alc s [zi, zi, zu, zi, zi] fun v4 s => sto s n5 v4 v2 fun s => K [v4] s)
 (.seq (.reg [q28] fun c r s K => alc s [zn, zn] fun v0 s => K [v0] s)
 (.seq (.seq (.reg [q188, q189, q190] fun c r s K => fad n12 (r q14) fun v0 => ld s v0 fun v1 => lnS v1 fun v2 => K [v1, v2, I0] s)
 (.block n2 (.loop (.seq (.reg [q191] fun c r s K => binK .lss (r q190) (r q189) fun v0 => K [v0] s)
 (.seq (.cond (.t q191) .skip
 (.exit n2))
 (.seq (.block n3 (.seq (.reg [q30] fun c r s K => ixs n9 (r q188) (r q190) fun v0 => lN s n9 v0 fun v1 => alc s [zu, zu, zu, zu, zu, zu, zu, zu, zn] fun v2 s => sto s n9 v2 v1 fun s => K [v2] s)
 (.seq (.reg [] fun c r s K => fad n0 (r q28) fun v0 => ld s v0 fun v1 => fad n0 (r q30) fun v2 => lN s n8 v2 fun v3 => h_op3_buildS n1 n8 [zu, zu, zu, zu, zu, zu, zu, zu] [(n0, n8, (.c v3))] c r s fun v4 s => xA n8 n64 v1 v4 c r s fun v5 s => fad n0 (r q28) fun v6 => sto s n1 v6 v5 fun s => K [] s)
 (.reg [] fun c r s K => fad n1 (r q28) fun v0 => ld s v0 fun v1 => fad n8 (r q30) fun v2 => ld s v2 fun v3 => h_op3_buildS n1 n1 [zn] [(n0, n1, (.c v3))] c r s fun v4 s => xA n1 n24 v1 v4 c r s fun v5 s => fad n1 (r q28) fun v6 => sto s n1 v6 v5 fun s => K [] s))))
 (.reg [q190] fun c r s K => binK .add (r q190) I1 fun v0 => K [v0] s)))))))
 (.seq (.reg [q31] fun c r s K => fad n3 (r q8) fun v0 => ld s v0 fun v1 => c (nat_lit 203) [v1] s fun v2 s => K [v2] s)
 (.seq (.seq (.reg [q213, q214] fun c r s K => lnS (r q31) fun v0 => K [v0, I0] s)
 (.block n4 (.loop (.seq (.reg [q215] fun c r s K => binK .lss (r q214) (r q213) fun v0 => K [v0] s)
 (.seq (.cond (.t q215) .skip
 (.exit n4))
 (.seq (.block n5 (.seq (.reg [q32] fun c r s K => K [(r q214)] s)
 (.drw [] fun c r s K => (fun z m => ixs n1 (r q31) (r q32) fun v0 => dL z m n8 n7 s v0 fun v1 m s => dL z m n16 n0 s (r q12) fun v2 m s => dw3 m n32 n16 s (fun s q => c n85 [v2] s q) fun v3 m s => binK .rem v1 v3 fun v4 => ixs n1 (r q31) (r q32) fun v5 => dS z m (nat_lit 256) (nat_lit 255) s n1 v5 v4 fun _ m s => K [] s) s.next mk0)))
 (.reg [q214] fun c r s K => binK .add (r q214) I1 fun v0 => K [v0] s)))))))
 (.seq (.seq (.drw [q249] fun c r s K => (fun z m => dN z m n1 n0 s n5 (r q26) fun v0 m s => fad n4 (r q7) fun v1 => dL z m n4 n2 s v1 fun v2 m s => fad n5 (r q7) fun v3 => dL z m n16 n8 s v3 fun v4 m s => h_op3_build [zn, zn] [(n0, n1, (.c v2)), (n1, n1, (.c v4))] c r s fun v5 s => dL z m n128 n0 s (r q15) fun v6 m s => dL z m (nat_lit 256) n0 s (r q12) fun v7 m s => fad n2 (r q8) fun v8 => dL z m (nat_lit 1024) (nat_lit 512) s v8 fun v9 m s => fad n1 (r q14) fun v10 => dL z m (nat_lit 4096) (nat_lit 2048) s v10 fun v11 m s => fad n2 (r q14) fun v12 => dL z m (nat_lit 16384) (nat_lit 8192) s v12 fun v13 m s => fad n0 (r q14) fun v14 => dL z m (nat_lit 65536) (nat_lit 32768) s v14 fun v15 m s => fad n3 (r q14) fun v16 => dL z m (nat_lit 262144) (nat_lit 131072) s v16 fun v17 m s => dw1 m (nat_lit 524288) (fun q => h_op3_buildS n4 n1 [zn, zn, zn, zn] [(n0, n1, (.c v11)), (n1, n1, (.c v13)), (n2, n1, (.c v15)), (n3, n1, (.c v17))] c r s q) fun v18 m s => dw3 m (nat_lit 1048576) (nat_lit 1048320) s (fun s q => c (nat_lit 205) [v7, v9, v18] s q) fun v19 m s => dN z m (nat_lit 2097152) n0 s n2 (r q28) fun v20 m s => dw3 m (nat_lit 4194304) (nat_lit 4194303) s (fun s q => c (nat_lit 204) [v0, v5, (r q31), v6, v19, v20] s q) fun v21 m s => nott v21 fun v22 => K [v22] s) s.next mk0)
 (.cond (.t q249) (.seq (.reg [q10] fun c r s K => K [I16] s)
 .ret)
 .skip))
 (.seq (.reg [q10] fun c r s K => K [I0] s)
 .ret)))))))))))))))))))), [(.tmp q10)], [q0, q1, q2, q3, q4], [q33, q34, q35, q36, q37, q38, q39, q40, q41, q42, q43, q44, q45, q46, q47, q48, q49, q50, q51, q52, q53, q54, q55, q56, q57, q58, q59, q60, q61, q62, q63, q64, q65, q66, q67, q68, q69, q70, q71, q72, q73, q74, q75, q76, q77, q78, q79, q80, q81, q82, q83, q84, q85, q86, q87, q88, q89, q90, q91, q92, q93, q94, q95, q96, q97, q98, q99, q100, q101, q102, q103, q104, q105, q106, q107, q108, q109, q110, q111, q112, q113, q114, q115, q116, q117, q118, q119, q120, q124, q125, q126, q127, q128, q129, q130, q131, q132, q133, q134, q135, q136, q137, q138, q139, q140, q141, q142, q143, q144, q146, q147, q148, q149, q150, q151, q152, q153, q154, q155, q156, q157, q158, q159, q160, q161, q162, q163, q165, q166, q167, q168, q169, q170, q164, q171, q172, q25, q173, q174, q175, q176, q177, q178, q179, q180, q183, q184, q182, q185, q186, q27, q187, q192, q193, q194, q195, q196, q197, q198, q199, q200, q201, q202, q203, q204, q205, q206, q207, q208, q209, q210, q211, q212, q216, q217, q218, q219, q220, q221, q222, q223, q224, q225, q226, q227, q228, q229, q230, q231, q232, q233, q234, q235, q236, q237, q238, q239, q240, q241, q242, q243, q244, q245, q246, q247, q248]⟩
/- attestor/lowdegree.Check -/
noncomputable def cf204 : HF := ⟨
(.seq (.reg [q6, q7, q8, q9, q11, q12] fun c r s K => bxx s (r q0) fun v0 s => bxx s (r q1) fun v1 s => bxx s (r q2) fun v2 s => bxx s (r q3) fun v3 s => bxx s (r q5) fun v4 s => alc s [(.bool false)] fun v5 s => K [v0, v1, v2, v3, v4, v5] s)
 (.seq (.seq (.drw [q64] fun c r s K => (fun z m => dN z m n1 n0 s n5 (r q6) fun v0 m s => dw3 m n2 n1 s (fun s q => c n140 [v0] s q) fun v1 m s => nott v1 fun v2 => jnD false v2 (fun jj => dN z m n16 n15 s n5 (r q6) jj) m s fun v3 m s => jnD false v2 (fun jj => dN z m n32 n15 s n2 (r q7) jj) m s fun v4 m s => jnD false v2 (fun jj => dw3 m n64 n63 s (fun s q => c (nat_lit 316) [v3, v4] s q) jj) m s fun v5 m s => jnD false v2 (fun jj => nott v5 fun v => jj v m s) m s fun v6 m s => pck v2 tt v6 fun v7 => jnD false v7 (fun jj => dL z m (nat_lit 1024) (nat_lit 1023) s (r q8) jj) m s fun v8 m s => jnD false v7 (fun jj => lnS v8 fun v => jj v m s) m s fun v9 m s => jnD false v7 (fun jj => fad n0 (r q7) fun v => jj v m s) m s fun v10 m s => jnD false v7 (fun jj => dL z m (nat_lit 8192) (nat_lit 5119) s v10 jj) m s fun v11 m s => jnD false v7 (fun jj => lnS v11 fun v => jj v m s) m s fun v12 m s => jnD false v7 (fun jj => binK .neq v9 v12 fun v => jj v m s) m s fun v13 m s => pck v7 tt v13 fun v14 => jnD false v14 (fun jj => dL z m (nat_lit 262144) (nat_lit 262143) s (r q9) jj) m s fun v15 m s => jnD false v14 (fun jj => binK .lss v15 I0 fun v => jj v m s) m s fun v16 m s => pck v14 tt v16 fun v17 => jnD false v17 (fun jj => dL z m (nat_lit 4194304) (nat_lit 4194303) s (r q9) jj) m s fun v18 m s => jnD false v17 (fun jj => fad n0 (r q6) fun v => jj v m s) m s fun v19 m s => jnD false v17 (fun jj => dN z m (nat_lit 16777216) (nat_lit 12582911) s n3 v19 jj) m s fun v20 m s => jnD false v17 (fun jj => dw3 m (nat_lit 33554432) (nat_lit 29360127) s (fun s q => c n141 [v20] s q) jj) m s fun v21 m s => jnD false v17 (fun jj => binK .geq v18 v21 fun v => jj v m s) m s fun v22 m s => pck v17 tt v22 fun v23 => jnD false v23 (fun jj => fad n0 (r q11) fun v => jj v m s) m s fun v24 m s => jnD false v23 (fun jj => dL z m (nat_lit 1073741824) (nat_lit 1073741823) s v24 jj) m s fun v25 m s => jnD false v23 (fun jj => lnS v25 fun v => jj v m s) m s fun v26 m s => jnD false v23 (fun jj => dL z m (nat_lit 4294967296) (nat_lit 536870911) s (r q8) jj) m s fun v27 m s => jnD false v23 (fun jj => lnS v27 fun v => jj v m s) m s fun v28 m s => jnD false v23 (fun jj => binK .neq v26 v28 fun v => jj v m s) m s fun v29 m s => pck v23 tt v29 fun v30 => jnD false v30 (fun jj => fad n1 (r q11) fun v => jj v m s) m s fun v31 m s => jnD false v30 (fun jj => dL z m (nat_lit 274877906944) (nat_lit 274877906943) s v31 jj) m s fun v32 m s => jnD false v30 (fun jj => lnS v32 fun v => jj v m s) m s fun v33 m s => jnD false v30 (fun jj => dL z m (nat_lit 1099511627776) (nat_lit 137438953471) s (r q8) jj) m s fun v34 m s => jnD false v30 (fun jj => lnS v34 fun v => jj v m s) m s fun v35 m s => jnD false v30 (fun jj => binK .neq v33 v35 fun v => jj v m s) m s fun v36 m s => pck v30 tt v36 fun v37 => K [v37] s) s.next mk0)
 (.cond (.t q64) (.seq (.reg [] fun c r s K => sto s n1 (r q12) ff fun s => K [] s)
 .ret)
 .skip))
 (.seq (.reg [q13] fun c r s K => fad n0 (r q6) fun v0 => fad n0 v0 fun v1 => ld s v1 fun v2 => alc s [zi] fun v3 s => sto s n1 v3 v2 fun s => K [v3] s)
 (.seq (.reg [q14] fun c r s K => ld s (r q13) fun v0 => c (nat_lit 214) [v0, (r q4)] s fun v1 s => alc s [zu] fun v2 s => sto s n1 v2 v1 fun s => K [v2] s)
 (.seq (.seq (.reg [q72] fun c r s K => lN s n5 (r q6) fun v0 => c n143 [v0] s fun v1 s => K [v1] s)
 (.block n0 (.rng (nat_lit 204) n0 (.t q72) [q73] (.reg [q15] fun c r s K => alc s [zi, zi, zi, zi, zu, zi, zi] fun v0 s => sto s n7 v0 (r q73) fun s => K [v0] s)
 (.block n1 (.seq (.reg [q16] fun c r s K => fad n0 (r q11) fun v0 => ld s v0 fun v1 => fad n0 (r q15) fun v2 => ld s v2 fun v3 => ixs n8 v1 v3 fun v4 => lN s n8 v4 fun v5 => alc s [zu, zu, zu, zu, zu, zu, zu, zu] fun v6 s => sto s n8 v6 v5 fun s => K [v6] s)
 (.seq (.drw [q17, q18] fun c r s K => (fun z m => dL z m n1 n0 s (r q9) fun v0 m s => fad n1 (r q15) fun v1 => dL z m n4 n2 s v1 fun v2 m s => binK .quo v0 v2 fun v3 => dL z m n16 n0 s (r q9) fun v4 m s => fad n1 (r q15) fun v5 => dL z m n64 n32 s v5 fun v6 m s => binK .rem v4 v6 fun v7 => K [v3, v7] s) s.next mk0)
 (.seq (.seq (.drw [q131] fun c r s K => (fun z m => dL z m n1 n0 s (r q13) fun v0 m s => dw2 z m n2 n0 (r q16) (fun q => h_op3_sliceA n8 n1 (.c (r q16)) none none none c r s q) fun v1 m s => dw3 m n4 n3 s (fun s q => c (nat_lit 315) [v0, v1] s q) fun v2 m s => nott v2 fun v3 => jnD false v3 (fun jj => jj (r q17) m s) m s fun v4 m s => jnD false v3 (fun jj => ixA n8 n1 (r q16) v4 fun v => jj v m s) m s fun v5 m s => jnD false v3 (fun jj => dL z m n128 n127 s v5 jj) m s fun v6 m s => jnD false v3 (fun jj => dL z m (nat_lit 256) n31 s (r q14) jj) m s fun v7 m s => jnD false v3 (fun jj => binK .neq v6 v7 fun v => jj v m s) m s fun v8 m s => pck v3 tt v8 fun v9 => jnD false v9 (fun jj => fad n1 (r q11) fun v => jj v m s) m s fun v10 m s => jnD false v9 (fun jj => dL z m (nat_lit 8192) (nat_lit 8191) s v10 jj) m s fun v11 m s => jnD false v9 (fun jj => fad n0 (r q15) fun v => jj v m s) m s fun v12 m s => jnD false v9 (fun jj => dL z m (nat_lit 32768) (nat_lit 20479) s v12 jj) m s fun v13 m s => jnD false v9 (fun jj => ixs n1 v11 v13 fun v => jj v m s) m s fun v14 m s => jnD false v9 (fun jj => dL z m (nat_lit 131072) (nat_lit 131071) s v14 jj) m s fun v15 m s => jnD false v9 (fun jj => lnS v15 fun v => jj v m s) m s fun v16 m s => jnD false v9 (fun jj => fad n6 (r q15) fun v => jj v m s) m s fun v17 m s => jnD false v9 (fun jj => dL z m (nat_lit 1048576) (nat_lit 528383) s v17 jj) m s fun v18 m s => jnD false v9 (fun jj => binK .neq v16 v18 fun v => jj v m s) m s fun v19 m s => pck v9 tt v19 fun v20 => jnD false v20 (fun jj => dL z m (nat_lit 16777216) (nat_lit 16777215) s (r q13) jj) m s fun v21 m s => jnD false v20 (fun jj => fad n0 (r q7) fun v => jj v m s) m s fun v22 m s => jnD false v20 (fun jj => dL z m (nat_lit 67108864) (nat_lit 50331647) s v22 jj) m s fun v23 m s => jnD false v20 (fun jj => fad n0 (r q15) fun v => jj v m s) m s fun v24 m s => jnD false v20 (fun jj => dL z m (nat_lit 268435456) (nat_lit 150994943) s v24 jj) m s fun v25 m s => jnD false v20 (fun jj => ixs n1 v23 v25 fun v => jj v m s) m s fun v26 m s => jnD false v20 (fun jj => dL z m (nat_lit 1073741824) (nat_lit 1056964607) s v26 jj) m s fun v27 m s => jnD false v20 (fun jj => jj (r q18) m s) m s fun v28 m s => jnD false v20 (fun jj => dL z m (nat_lit 4294967296) (nat_lit 16777215) s (r q13) jj) m s fun v29 m s => jnD false v20 (fun jj => dw2 z m (nat_lit 8589934592) (nat_lit 16777215) (r q16) (fun q => h_op3_sliceA n8 n1 (.c (r q16)) none none none c r s q) jj) m s fun v30 m s => jnD false v20 (fun jj => dw3 m (nat_lit 17179869184) (nat_lit 12901679103) s (fun s q => c n89 [v29, v30] s q) jj) m s fun v31 m s => jnD false v20 (fun jj => fad n1 (r q11) fun v => jj v m s) m s fun v32 m s => jnD false v20 (fun jj => dL z m (nat_lit 68719476736) (nat_lit 34376515583) s v32 jj) m s fun v33 m s => jnD false v20 (fun jj => fad n0 (r q15) fun v => jj v m s) m s fun v34 m s => jnD false v20 (fun jj => dL z m (nat_lit 274877906944) (nat_lit 137455730687) s v34 jj) m s fun v35 m s => jnD false v20 (fun jj => ixs n1 v33 v35 fun v => jj v m s) m s fun v36 m s => jnD false v20 (fun jj => dL z m (nat_lit 1099511627776) (nat_lit 1065168666623) s v36 jj) m s fun v37 m s => jnD false v20 (fun jj => dw3 m (nat_lit 2199023255552) (nat_lit 2199023255551) s (fun s q => c (nat_lit 197) [v21, v27, v28, v31, v37] s q) jj) m s fun v38 m s => jnD false v20 (fun jj => nott v38 fun v => jj v m s) m s fun v39 m s => pck v20 tt v39 fun v40 => K [v40] s) s.next mk0)
 (.cond (.t q131) (.seq (.reg [] fun c r s K => sto s n1 (r q12) ff fun s => K [] s)
 .ret)
 .skip))
 (.drw [] fun c r s K => (fun z m => dL z m n1 n0 s (r q13) fun v0 m s => fad n2 (r q15) fun v1 => dN z m n4 n2 s n3 v1 fun v2 m s => dw3 m n16 n14 s (fun s q => c (nat_lit 323) [v2, (r q18)] s q) fun v3 m s => dN z m n32 n0 s n8 (r q16) fun v4 m s => dL z m n64 n0 s (r q8) fun v5 m s => fad n0 (r q15) fun v6 => dL z m (nat_lit 256) n128 s v6 fun v7 m s => ixs n1 v5 v7 fun v8 => dL z m (nat_lit 1024) (nat_lit 960) s v8 fun v9 m s => dw3 m (nat_lit 2048) (nat_lit 2047) s (fun s q => c (nat_lit 322) [v0, v3, v4, v9] s q) fun v10 m s => dS z m (nat_lit 8192) (nat_lit 4095) s n1 (r q14) v10 fun _ m s => dS z m (nat_lit 16384) (nat_lit 16383) s n1 (r q9) (r q18) fun _ m s => K [] s) s.next mk0))))))))
 (.seq (.reg [q19] fun c r s K => lN s n5 (r q6) fun v0 => c n146 [v0] s fun v1 s => xE n0 v1 c r s fun v2 s => xE n1 v1 c r s fun v3 s => alc s [zi, zi, zu] fun v4 s => sto s n3 v4 v2 fun s => K [v4] s)
 (.seq (.drw [] fun c r s K => (fun z m => dL z m n1 n0 s (r q14) fun v0 m s => dL z m n2 n0 s (r q13) fun v1 m s => fad n1 (r q7) fun v2 => dL z m n8 n4 s v2 fun v3 m s => dN z m n16 n0 s n3 (r q19) fun v4 m s => dL z m n32 n0 s (r q9) fun v5 m s => dw3 m n64 n48 s (fun s q => c (nat_lit 323) [v4, v5] s q) fun v6 m s => dw3 m n128 n126 s (fun s q => c (nat_lit 275) [v1, v3, v6] s q) fun v7 m s => binK .eql v0 v7 fun v8 => dS z m (nat_lit 512) (nat_lit 511) s n1 (r q12) v8 fun _ m s => K [] s) s.next mk0)
 .ret))))))), [(.cell1 q12)], [q0, q1, q2, q3, q4, q5], [q21, q22, q23, q24, q25, q26, q27, q28, q29, q30, q31, q32, q33, q34, q35, q36, q37, q38, q39, q40, q41, q42, q43, q44, q45, q46, q47, q48, q49, q50, q51, q52, q53, q54, q55, q56, q57, q58, q59, q60, q61, q62, q63, q65, q66, q67, q68, q69, q70, q71, q74, q75, q76, q77, q78, q79, q80, q81, q82, q83, q84, q85, q86, q87, q88, q89, q90, q91, q92, q93, q94, q95, q96, q97, q98, q99, q100, q101, q102, q103, q104, q105, q106, q107, q108, q109, q110, q111, q112, q113, q114, q115, q116, q117, q118, q119, q120, q121, q122, q123, q124, q125, q126, q127, q128, q129, q130, q132, q133, q134, q135, q136, q137, q138, q139, q140, q141, q142, q143, q144, q146, q147, q145, q148, q149, q20, q150, q151, q152, q153, q154, q155, q156, q157, q158]⟩
/- attestor/fold.At -/
noncomputable def cf322 : HF := ⟨
(.seq (.reg [q6, q8] fun c r s K => bxx s (r q2) fun v0 s => K [v0, U0] s)
 (.seq (.reg [q1] fun c r s K => c (nat_lit 214) [(r q0), (r q1)] s fun v0 s => K [v0] s)
 (.seq (.seq (.reg [q14] fun c r s K => binK .eql (r q1) U0 fun v0 => K [v0] s)
 (.cond (.t q14) (.seq (.reg [q8] fun c r s K => K [U0] s)
 .ret)
 .skip))
 (.seq (.reg [q9] fun c r s K => h_op3_build [zi, zi, zu] [(n0, n1, (.c (r q0))), (n1, n1, (.c I3)), (n2, n1, (.c (r q1)))] c r s fun v0 s => h_op3_sliceA n8 n1 (.c (r q6)) none none none c r s fun v1 s => c (nat_lit 274) [v0, v1, I0] s fun v2 s => alc s [zu, zu, zu, zu, zu, zu, zu, zu] fun v3 s => sto s n8 v3 v2 fun s => K [v3] s)
 (.seq (.reg [q8] fun c r s K => h_op3_sliceA n8 n1 (.c (r q9)) none none none c r s fun v0 s => c (nat_lit 275) [(r q0), v0, (r q3)] s fun v1 s => K [v1] s)
 .ret))))), [(.tmp q8)], [q0, q1, q2, q3], [q10, q11, q12, q13, q15, q16, q17, q18, q19, q20, q21, q22, q23]⟩
/- attestor/field.Is -/
noncomputable def cf315 : HF := ⟨
(.seq (.reg [q4] fun c r s K => K [ff] s)
 (.seq (.seq (.reg [q7, q8, q9] fun c r s K => lnS (r q1) fun v0 => K [(r q1), v0, I0] s)
 (.block n0 (.loop (.seq (.reg [q10] fun c r s K => binK .lss (r q9) (r q8) fun v0 => K [v0] s)
 (.seq (.cond (.t q10) .skip
 (.exit n0))
 (.seq (.block n1 (.seq (.reg [q6] fun c r s K => ixs n1 (r q7) (r q9) fun v0 => ld s v0 fun v1 => K [v1] s)
 (.seq (.reg [q16] fun c r s K => c n85 [(r q0)] s fun v0 s => binK .geq (r q6) v0 fun v1 => K [v1] s)
 (.cond (.t q16) (.seq (.reg [q4] fun c r s K => K [ff] s)
 .ret)
 .skip))))
 (.reg [q9] fun c r s K => binK .add (r q9) I1 fun v0 => K [v0] s)))))))
 (.seq (.reg [q4] fun c r s K => c (nat_lit 181) [(r q0)] s fun v0 s => K [v0] s)
 .ret))), [(.tmp q4)], [q0, q1], [q11, q12, q13, q14, q15, q17, q18, q19]⟩
/- attestor/lowdegree.shaped -/
noncomputable def cf316 : HF := ⟨
(.seq (.reg [q2, q3, q4] fun c r s K => bxx s (r q0) fun v0 s => bxx s (r q1) fun v1 s => alc s [(.bool false)] fun v2 s => K [v0, v1, v2] s)
 (.seq (.reg [q5] fun c r s K => fad n0 (r q2) fun v0 => fad n0 v0 fun v1 => ld s v1 fun v2 => alc s [zi] fun v3 s => sto s n1 v3 v2 fun s => K [v3] s)
 (.seq (.reg [q7] fun c r s K => lN s n5 (r q2) fun v0 => c n146 [v0] s fun v1 s => xE n0 v1 c r s fun v2 s => xE n1 v1 c r s fun v3 s => alc s [zi, zi, zu] fun v4 s => sto s n3 v4 v2 fun s => K [v3] s)
 (.seq (.seq (.drw [q39] fun c r s K => (fun z m => fad n0 (r q3) fun v0 => dL z m n2 n1 s v0 fun v1 m s => lnS v1 fun v2 => fad n3 (r q2) fun v3 => dL z m n16 n8 s v3 fun v4 m s => dw3 m n32 n24 s (fun s q => c (nat_lit 269) [v4] s q) fun v5 m s => binK .neq v2 v5 fun v6 => jnD false v6 (fun jj => fad n1 (r q3) fun v => jj v m s) m s fun v7 m s => jnD false v6 (fun jj => dL z m (nat_lit 512) (nat_lit 511) s v7 jj) m s fun v8 m s => jnD false v6 (fun jj => lnS v8 fun v => jj v m s) m s fun v9 m s => jnD false v6 (fun jj => jj (r q7) m s) m s fun v10 m s => jnD false v6 (fun jj => binK .neq v9 v10 fun v => jj v m s) m s fun v11 m s => pck v6 tt v11 fun v12 => jnD false v12 (fun jj => dL z m (nat_lit 32768) (nat_lit 32767) s (r q5) jj) m s fun v13 m s => jnD false v12 (fun jj => fad n1 (r q3) fun v => jj v m s) m s fun v14 m s => jnD false v12 (fun jj => dL z m (nat_lit 131072) (nat_lit 98303) s v14 jj) m s fun v15 m s => jnD false v12 (fun jj => dw3 m (nat_lit 262144) (nat_lit 262143) s (fun s q => c (nat_lit 315) [v13, v15] s q) jj) m s fun v16 m s => jnD false v12 (fun jj => nott v16 fun v => jj v m s) m s fun v17 m s => pck v12 tt v17 fun v18 => K [v18] s) s.next mk0)
 (.cond (.t q39) (.seq (.reg [] fun c r s K => sto s n1 (r q4) ff fun s => K [] s)
 .ret)
 .skip))
 (.seq (.seq (.reg [q41] fun c r s K => lN s n5 (r q2) fun v0 => c n143 [v0] s fun v1 s => K [v1] s)
 (.block n0 (.rng (nat_lit 316) n0 (.t q41) [q42] (.reg [q8] fun c r s K => alc s [zi, zi, zi, zi, zu, zi, zi] fun v0 s => sto s n7 v0 (r q42) fun s => K [v0] s)
 (.block n1 (.seq (.seq (.drw [q53] fun c r s K => (fun z m => fad n0 (r q3) fun v0 => dL z m n2 n1 s v0 fun v1 m s => fad n0 (r q8) fun v2 => dL z m n8 n4 s v2 fun v3 m s => ixs n1 v1 v3 fun v4 => dL z m n32 n31 s v4 fun v5 m s => lnS v5 fun v6 => fad n5 (r q8) fun v7 => dL z m (nat_lit 256) n128 s v7 fun v8 m s => xS true I1 v8 c r s fun v9 s => binK .neq v6 v9 fun v10 => K [v10] s) s.next mk0)
 (.cond (.t q53) (.seq (.reg [] fun c r s K => sto s n1 (r q4) ff fun s => K [] s)
 .ret)
 .skip))
 (.seq (.reg [q59, q60, q61] fun c r s K => fad n0 (r q3) fun v0 => ld s v0 fun v1 => fad n0 (r q8) fun v2 => ld s v2 fun v3 => ixs n1 v1 v3 fun v4 => ld s v4 fun v5 => lnS v5 fun v6 => K [v5, v6, I0] s)
 (.block n2 (.loop (.seq (.reg [q62] fun c r s K => binK .lss (r q61) (r q60) fun v0 => K [v0] s)
 (.seq (.cond (.t q62) .skip
 (.exit n2))
 (.seq (.block n3 (.seq (.reg [q10] fun c r s K => ixs n2 (r q59) (r q61) fun v0 => lN s n2 v0 fun v1 => alc s [zu, zu] fun v2 s => sto s n2 v2 v1 fun s => K [v2] s)
 (.seq (.drw [q68] fun c r s K => (fun z m => dL z m n1 n0 s (r q5) fun v0 m s => dw2 z m n2 n0 (r q10) (fun q => h_op3_sliceA n2 n1 (.c (r q10)) none none none c r s q) fun v1 m s => dw3 m n4 n3 s (fun s q => c (nat_lit 315) [v0, v1] s q) fun v2 m s => nott v2 fun v3 => K [v3] s) s.next mk0)
 (.cond (.t q68) (.seq (.reg [] fun c r s K => sto s n1 (r q4) ff fun s => K [] s)
 .ret)
 .skip))))
 (.reg [q61] fun c r s K => binK .add (r q61) I1 fun v0 => K [v0] s))))))))))))
 (.seq (.reg [] fun c r s K => sto s n1 (r q4) tt fun s => K [] s)
 .ret)))))), [(.cell1 q4)], [q0, q1], [q11, q12, q13, q15, q16, q14, q17, q18, q6, q19, q20, q21, q22, q23, q24, q25, q26, q27, q28, q29, q30, q31, q32, q33, q34, q35, q36, q37, q38, q40, q43, q44, q45, q46, q47, q48, q49, q50, q51, q52, q54, q55, q56, q57, q58, q63, q64, q65, q66, q67, q69]⟩
/- attestor/verifier.sum -/
noncomputable def cf205 : HF := ⟨
(.seq (.reg [q6] fun c r s K => K [U0] s)
 (.seq (.reg [q7] fun c r s K => K [U0] s)
 (.seq (.reg [q8] fun c r s K => K [U1] s)
 (.seq (.seq (.reg [q13, q14, q15] fun c r s K => lnS (r q2) fun v0 => K [(r q2), v0, I0] s)
 (.block n0 (.loop (.seq (.reg [q16] fun c r s K => binK .lss (r q15) (r q14) fun v0 => K [v0] s)
 (.seq (.cond (.t q16) .skip
 (.exit n0))
 (.seq (.block n1 (.seq (.reg [q10] fun c r s K => ixs n1 (r q13) (r q15) fun v0 => ld s v0 fun v1 => K [v1] s)
 (.seq (.reg [q19, q20, q21] fun c r s K => lnS (r q10) fun v0 => K [(r q10), v0, I0] s)
 (.block n2 (.loop (.seq (.reg [q22] fun c r s K => binK .lss (r q21) (r q20) fun v0 => K [v0] s)
 (.seq (.cond (.t q22) .skip
 (.exit n2))
 (.seq (.block n3 (.seq (.reg [q12] fun c r s K => ixs n1 (r q19) (r q21) fun v0 => ld s v0 fun v1 => K [v1] s)
 (.seq (.reg [q7] fun c r s K => c n138 [(r q0), (r q8), (r q12)] s fun v0 s => c n137 [(r q0), (r q7), v0] s fun v1 s => K [v1] s)
 (.reg [q8] fun c r s K => c n138 [(r q0), (r q8), (r q1)] s fun v0 s => K [v0] s))))
 (.reg [q21] fun c r s K => binK .add (r q21) I1 fun v0 => K [v0] s)))))))))
 (.reg [q15] fun c r s K => binK .add (r q15) I1 fun v0 => K [v0] s)))))))
 (.seq (.reg [q6] fun c r s K => K [(r q7)] s)
 .ret))))), [(.tmp q6)], [q0, q1, q2], [q17, q18, q23, q24, q25, q26, q27, q28, q29, q30, q31, q32, q33, q34, q35, q36, q37, q38]⟩
/- attestor/compose.Join -/
noncomputable def cf202 : HF := ⟨
(.seq (.reg [q4, q8] fun c r s K => bxx s (r q0) fun v0 s => K [v0, U0] s)
 (.seq (.seq (.reg [q16] fun c r s K => ld s (r q4) fun v0 => c (nat_lit 320) [v0, (r q1)] s fun v1 s => nott v1 fun v2 => K [v2] s)
 (.cond (.t q16) (.seq (.reg [q8] fun c r s K => K [U0] s)
 .ret)
 .skip))
 (.seq (.drw [q9] fun c r s K => (fun z m => dL z m n1 n0 s (r q4) fun v0 m s => xS true U1 (r q1) c r s fun v1 s => dw3 m n16 n15 s (fun s q => c (nat_lit 199) [v0, (r q3), v1] s q) fun v2 m s => dw1 m n32 (fun q => alc s [zu] q) fun v3 m s => dS z m n64 n63 s n1 v3 v2 fun _ m s => K [v3] s) s.next mk0)
 (.seq (.reg [q10] fun c r s K => alc s [zu] fun v0 s => K [v0] s)
 (.seq (.seq (.reg [q23] fun c r s K => c (nat_lit 321) [(r q2)] s fun v0 s => K [v0] s)
 (.block n0 (.rng (nat_lit 202) n0 (.t q23) [q24, q25] (.reg [q12] fun c r s K => K [(r q25)] s)
 (.block n1 (.drw [] fun c r s K => (fun z m => dL z m n1 n0 s (r q4) fun v0 m s => dL z m n2 n0 s (r q4) fun v1 m s => dL z m n4 n0 s (r q10) fun v2 m s => dL z m n8 n0 s (r q9) fun v3 m s => dw3 m n16 n14 s (fun s q => c n138 [v1, v2, v3] s q) fun v4 m s => dw3 m n64 n63 s (fun s q => c n137 [v0, v4, (r q12)] s q) fun v5 m s => dS z m n128 n127 s n1 (r q10) v5 fun _ m s => K [] s) s.next mk0)))))
 (.seq (.reg [q8] fun c r s K => ld s (r q10) fun v0 => K [v0] s)
 .ret)))))), [(.tmp q8)], [q0, q1, q2, q3], [q13, q14, q15, q17, q18, q19, q20, q21, q22, q26, q27, q28, q29, q30, q31, q32, q33]⟩
/- attestor/compose.At -/
noncomputable def cf201 : HF := ⟨
(.seq (.reg [q4, q5, q8, q9] fun c r s K => bxx s (r q0) fun v0 s => bxx s (r q1) fun v1 s => K [v0, v1, U0, I0] s)
 (.seq (.reg [q10, q11] fun c r s K => lN s n8 (r q4) fun v0 => lN s n7 (r q5) fun v1 => c (nat_lit 319) [v0, v1] s fun v2 s => xE n0 v2 c r s fun v3 s => xE n1 v2 c r s fun v4 s => K [v3, v4] s)
 (.seq (.seq (.reg [q24] fun c r s K => binK .neq (r q11) I0 fun v0 => K [v0] s)
 (.cond (.t q24) (.seq (.reg [q8, q9] fun c r s K => K [U0, (r q11)] s)
 .ret)
 .skip))
 (.seq (.reg [q12] fun c r s K => lnS (r q10) fun v0 => xM n1 n8 [zu] I0 v0 c r s fun v1 s => K [v1] s)
 (.seq (.seq (.reg [q30, q31, q32] fun c r s K => lN s n8 (r q4) fun v0 => c (nat_lit 260) [v0] s fun v1 s => lnS v1 fun v2 => K [v1, v2, I0] s)
 (.block n0 (.loop (.seq (.reg [q33] fun c r s K => binK .lss (r q32) (r q31) fun v0 => K [v0] s)
 (.seq (.cond (.t q33) .skip
 (.exit n0))
 (.seq (.block n1 (.seq (.reg [q14] fun c r s K => ixs n1 (r q30) (r q32) fun v0 => ld s v0 fun v1 => K [v1] s)
 (.seq (.reg [q15] fun c r s K => fad n0 (r q4) fun v0 => ld s v0 fun v1 => fad n1 (r q4) fun v2 => ld s v2 fun v3 => c (nat_lit 261) [v1, v3, (r q14), (r q2)] s fun v4 s => xE n0 v4 c r s fun v5 s => xE n1 v4 c r s fun v6 s => K [v5] s)
 (.seq (.seq (.reg [q47] fun c r s K => binK .eql (r q15) U0 fun v0 => K [v0] s)
 (.cond (.t q47) (.seq (.reg [q8, q9] fun c r s K => K [U0, I7] s)
 .ret)
 .skip))
 (.reg [q12] fun c r s K => h_op3_buildS n1 n1 [zu] [(n0, n1, (.c (r q15)))] c r s fun v0 s => xA n1 n8 (r q12) v0 c r s fun v1 s => K [v1] s)))))
 (.reg [q32] fun c r s K => binK .add (r q32) I1 fun v0 => K [v0] s)))))))
 (.seq (.drw [q8, q9] fun c r s K => (fun z m => fad n0 (r q4) fun v0 => dL z m n2 n1 s v0 fun v1 m s => fad n0 (r q4) fun v2 => dL z m n16 n8 s v2 fun v3 m s => dw3 m n64 n56 s (fun s q => c (nat_lit 252) [v3, (r q12)] s q) fun v4 m s => dw3 m (nat_lit 256) (nat_lit 255) s (fun s q => c (nat_lit 264) [v1, (r q10), v4, (r q3)] s q) fun v5 m s => K [v5, I0] s) s.next mk0)
 .ret)))))), [(.tmp q8), (.tmp q9)], [q0, q1, q2, q3], [q18, q19, q20, q17, q21, q22, q23, q25, q26, q27, q28, q29, q34, q35, q37, q38, q39, q40, q41, q42, q43, q36, q44, q45, q16, q46, q48, q49, q50, q51, q52, q53, q54, q55, q56, q57, q58, q59, q60, q61]⟩
/- attestor/argument.Values -/
noncomputable def cf319 : HF := ⟨
(.seq (.reg [q2, q3, q4, q5] fun c r s K => bxx s (r q0) fun v0 s => bxx s (r q1) fun v1 s => K [v0, v1, (.sc zn), I0] s)
 (.seq (.seq (.reg [q8] fun c r s K => lN s n8 (r q2) fun v0 => c n118 [v0] s fun v1 s => nott v1 fun v2 => K [v2] s)
 (.cond (.t q8) (.seq (.reg [q4, q5] fun c r s K => K [(.sc zn), I1] s)
 .ret)
 .skip))
 (.seq (.reg [q4, q5] fun c r s K => lN s n8 (r q2) fun v0 => lN s n7 (r q3) fun v1 => c (nat_lit 263) [v0, v1] s fun v2 s => xE n0 v2 c r s fun v3 s => xE n1 v2 c r s fun v4 s => K [v3, v4] s)
 .ret))), [(.tmp q4), (.tmp q5)], [q0, q1], [q6, q7, q9, q10, q11, q12, q13]⟩
/- attestor/verifier.opens$1 -/
noncomputable def cf198 : HF := ⟨
(.seq (.reg [q3] fun c r s K => K [U0] s)
 (.seq (.drw [q3] fun c r s K => (fun z m => dL z m n1 n0 s (r q0) fun v0 m s => dL z m n2 n0 s (r q0) fun v1 m s => dw3 m n4 n2 s (fun s q => c n95 [v1] s q) fun v2 m s => dL z m n8 n0 s (r q0) fun v3 m s => dL z m n16 n0 s (r q0) fun v4 m s => dL z m n32 n0 s (r q1) fun v5 m s => dw3 m n64 n54 s (fun s q => c (nat_lit 200) [v4, v5] s q) fun v6 m s => dL z m n128 n0 s (r q2) fun v7 m s => cnv .u64 v7 fun v8 => dw3 m (nat_lit 512) (nat_lit 510) s (fun s q => c (nat_lit 199) [v3, v6, v8] s q) fun v9 m s => dw3 m (nat_lit 1024) (nat_lit 1023) s (fun s q => c n138 [v0, v2, v9] s q) fun v10 m s => K [v10] s) s.next mk0)
 .ret)), [(.tmp q3)], [q0, q1, q2], [q4, q5, q6, q7, q8, q9, q10, q11, q12, q13, q14]⟩
/- attestor/tree.Check -/
noncomputable def cf197 : HF := ⟨
(.seq (.reg [q8, q10] fun c r s K => bxx s (r q3) fun v0 s => K [v0, ff] s)
 (.seq (.reg [q11] fun c r s K => lnS (r q1) fun v0 => c (nat_lit 211) [v0] s fun v1 s => K [v1] s)
 (.seq (.seq (.reg [q46] fun c r s K => binK .lss (r q11) I0 fun v0 => mf v0 (r q0) s fun v1 s => mf v0 (r q2) s fun v2 s => jf v0 (lN s n2 (r q8)) s fun v3 s => mf v0 (r q4) s fun v4 s => jn false v0 (fun j => c (nat_lit 317) [v1, v2, v3, v4] s j) s fun v5 s => jf v0 (nott v5) s fun v6 s => pck v0 tt v6 fun v7 => mf v7 (r q0) s fun v8 s => mf v7 (r q1) s fun v9 s => jn false v7 (fun j => c (nat_lit 212) [v8, v9] s j) s fun v10 s => jf v7 (nott v10) s fun v11 s => pck v7 tt v11 fun v12 => mf v12 (r q11) s fun v13 s => mf v12 (r q4) s fun v14 s => jf v12 (lnS v14) s fun v15 s => jf v12 (binK .add v13 v15) s fun v16 s => jf v12 (binK .gtr v16 I18) s fun v17 s => pck v12 tt v17 fun v18 => mf v18 (r q2) s fun v19 s => mf v18 (r q4) s fun v20 s => jf v18 (lnS v20) s fun v21 s => jn false v18 (fun j => xS false v19 v21 c r s j) s fun v22 s => mf v18 (r q1) s fun v23 s => jf v18 (lnS v23) s fun v24 s => jf v18 (binK .geq v22 v24) s fun v25 s => pck v18 tt v25 fun v26 => K [v26] s)
 (.cond (.t q46) (.seq (.reg [q10] fun c r s K => K [ff] s)
 .ret)
 .skip))
 (.seq (.drw [q10] fun c r s K => (fun z m => dN z m n4 n0 s n2 (r q8) fun v0 m s => dw3 m n16 n15 s (fun s q => c (nat_lit 318) [(r q0), (r q2), v0, (r q4)] s q) fun v1 m s => lnS (r q4) fun v2 => xS false (r q2) v2 c r s fun v3 s => ixs n2 (r q1) v3 fun v4 => dN z m (nat_lit 2048) (nat_lit 2016) s n2 v4 fun v5 m s => h_op4_eqv (.flat [n1, n1]) false (.c v1) (.c v5) c r s fun v6 s => K [v6] s) s.next mk0)
 .ret)))), [(.tmp q10)], [q0, q1, q2, q3, q4], [q12, q13, q14, q15, q16, q17, q18, q19, q20, q21, q22, q23, q24, q25, q26, q27, q28, q29, q30, q31, q32, q33, q34, q35, q36, q37, q38, q39, q40, q41, q42, q43, q44, q45, q47, q48, q49, q50, q51, q52, q53, q54, q55, q56, q57, q58, q59]⟩
/- attestor/tree.climb -/
noncomputable def cf318 : HF := ⟨
(.seq (.reg [q6, q8] fun c r s K => bxx s (r q2) fun v0 s => alc s [zu, zu] fun v1 s => K [v0, v1] s)
 (.seq (.reg [q9] fun c r s K => lN s n2 (r q6) fun v0 => c (nat_lit 385) [(r q0), (r q1), v0] s fun v1 s => K [v1] s)
 (.seq (.seq (.reg [q16, q17, q18] fun c r s K => lnS (r q3) fun v0 => K [(r q3), v0, I0] s)
 (.block n0 (.loop (.seq (.reg [q19] fun c r s K => binK .lss (r q18) (r q17) fun v0 => K [v0] s)
 (.seq (.cond (.t q19) .skip
 (.exit n0))
 (.seq (.block n1 (.seq (.reg [q11] fun c r s K => ixs n2 (r q16) (r q18) fun v0 => lN s n2 v0 fun v1 => alc s [zu, zu] fun v2 s => sto s n2 v2 v1 fun s => K [v2] s)
 (.reg [] fun c r s K => lN s n2 (r q11) fun v0 => h_op4_callV (.c (r q9)) [(.c v0)] c r s fun v1 s => xE n0 v1 c r s fun v2 s => xE n1 v1 c r s fun v3 s => sto s n2 (r q6) v3 fun s => K [] s)))
 (.reg [q18] fun c r s K => binK .add (r q18) I1 fun v0 => K [v0] s)))))))
 (.seq (.reg [] fun c r s K => lN s n2 (r q6) fun v0 => sto s n2 (r q8) v0 fun s => K [] s)
 .ret)))), [(.cellN n2 q8)], [q0, q1, q2, q3], [q12, q13, q14, q15, q20, q21, q23, q24, q25, q22, q26, q27, q28, q29]⟩
/- attestor/tree.climber -/
noncomputable def cf385 : HF := ⟨
(.seq (.reg [q3, q4, q5, q6] fun c r s K => bxx s (r q0) fun v0 s => bxx s (r q1) fun v1 s => bxx s (r q2) fun v2 s => K [v0, v1, v2, (.sc (.lit .nilFunc))] s)
 (.seq (.reg [q6] fun c r s K => h_op4_makeFunc (nat_lit 403) [(.c (r q5)), (.c (r q4)), (.c (r q3))] c r s fun v0 s => K [v0] s)
 .ret)), [(.tmp q6)], [q0, q1, q2], [q7]⟩
/- attestor/tree.climber$1 -/
noncomputable def cf403 : HF := ⟨
(.seq (.reg [q4, q5, q6] fun c r s K => bxx s (r q0) fun v0 s => alc s [zu, zu, zu, zu] fun v1 s => alc s [zu, zu] fun v2 s => K [v0, v1, v2] s)
 (.seq (.reg [q7] fun c r s K => lN s n2 (r q1) fun v0 => lN s n2 (r q4) fun v1 => h_op3_build [zu, zu, zu, zu] [(n0, n2, (.c v0)), (n2, n2, (.c v1))] c r s fun v2 s => alc s [zu, zu, zu, zu] fun v3 s => sto s n4 v3 v2 fun s => K [v3] s)
 (.seq (.seq (.reg [q13] fun c r s K => ld s (r q2) fun v0 => binK .and v0 I1 fun v1 => binK .eql v1 I1 fun v2 => K [v2] s)
 (.cond (.t q13) (.reg [] fun c r s K => lN s n2 (r q4) fun v0 => lN s n2 (r q1) fun v1 => h_op3_build [zu, zu, zu, zu] [(n0, n2, (.c v0)), (n2, n2, (.c v1))] c r s fun v2 s => sto s n4 (r q7) v2 fun s => K [] s)
 .skip))
 (.seq (.reg [] fun c r s K => ld s (r q2) fun v0 => xS false v0 U1 c r s fun v1 s => sto s n1 (r q2) v1 fun s => K [] s)
 (.seq (.reg [] fun c r s K => ld s (r q3) fun v0 => ixA n2 n2 (r q7) I0 fun v1 => lN s n2 v1 fun v2 => ixA n2 n2 (r q7) I1 fun v3 => lN s n2 v3 fun v4 => c (nat_lit 343) [v0, v2, v4] s fun v5 s => sto s n2 (r q1) v5 fun s => K [] s)
 (.seq (.drw [] fun c r s K => (fun z m => dN z m n1 n0 s n4 (r q7) fun v0 m s => dN z m n2 n0 s n2 (r q1) fun v1 m s => dS z m n4 n1 s n4 (r q5) v0 fun _ m s => dS z m n8 n7 s n2 (r q6) v1 fun _ m s => K [] s) s.next mk0)
 .ret)))))), [(.cellN n4 q5), (.cellN n2 q6)], [q0, q1, q2, q3], [q8, q9, q10, q11, q12, q14, q15, q16, q17, q18, q19, q20, q21, q22, q23, q24, q25, q26]⟩
/- attestor/tree.opens -/
noncomputable def cf317 : HF := ⟨
(.seq (.reg [q6, q8] fun c r s K => bxx s (r q2) fun v0 s => K [v0, ff] s)
 (.seq (.reg [q8] fun c r s K => c (nat_lit 181) [(r q0)] s fun v0 s => mt v0 (r q1) s fun v1 s => jt v0 (binK .geq v1 I0) s fun v2 s => pck v0 v2 ff fun v3 => mt v3 (r q3) s fun v4 s => jt v3 (lnS v4) s fun v5 s => jt v3 (binK .leq v5 I18) s fun v6 s => pck v3 v6 ff fun v7 => mt v7 (r q0) s fun v8 s => jt v7 (lN s n2 (r q6)) s fun v9 s => jn true v7 (fun j => h_op3_buildS n1 n2 [zu, zu] [(n0, n2, (.c v9))] c r s j) s fun v10 s => jn true v7 (fun j => c (nat_lit 212) [v8, v10] s j) s fun v11 s => pck v7 v11 ff fun v12 => mt v12 (r q0) s fun v13 s => mt v12 (r q3) s fun v14 s => jn true v12 (fun j => c (nat_lit 212) [v13, v14] s j) s fun v15 s => pck v12 v15 ff fun v16 => K [v16] s)
 .ret)), [(.tmp q8)], [q0, q1, q2, q3], [q9, q10, q11, q12, q13, q14, q15, q16, q17, q18, q19, q20, q21, q22, q23, q24, q25, q26, q27, q28, q29, q30]⟩
/- attestor/verifier.filled -/
noncomputable def cf196 : HF := ⟨
(.seq (.reg [q1, q2] fun c r s K => bxx s (r q0) fun v0 s => alc s [zi, zi, zi, zi, zn, zn, zn, zn] fun v1 s => K [v0, v1] s)
 (.seq (.reg [q3] fun c r s K => fad n4 (r q1) fun v0 => lN s n8 v0 fun v1 => alc s [zi, zi, zi, zi, zn, zn, zn, zn] fun v2 s => sto s n8 v2 v1 fun s => K [v2] s)
 (.seq (.reg [q4] fun c r s K => fad n1 (r q3) fun v0 => ld s v0 fun v1 => xS true I1 v1 c r s fun v2 s => xM n1 n8 [zu] v2 v2 c r s fun v3 s => K [v3] s)
 (.seq (.reg [] fun c r s K => h_op3_buildS n1 n1 [zn] [(n0, n1, (.c (r q4)))] c r s fun v0 s => fad n12 (r q1) fun v1 => ld s v1 fun v2 => c (nat_lit 302) [v0, v2] s fun v3 s => fad n4 (r q3) fun v4 => sto s n1 v4 v3 fun s => K [] s)
 (.seq (.reg [] fun c r s K => lN s n8 (r q3) fun v0 => sto s n8 (r q2) v0 fun s => K [] s)
 .ret))))), [(.cellN n8 q2)], [q0], [q5, q6, q7, q8, q9, q10, q11, q12, q13, q14, q15, q16, q17]⟩
/- attestor/verifier.Draws -/
noncomputable def cf100 : HF := ⟨
(.seq (.reg [q3, q5, q6, q7] fun c r s K => bxx s (r q0) fun v0 s => bxx s (r q2) fun v1 s => alc s [zn, zu, zu, zn, (.bool false), zn] fun v2 s => K [v0, v1, v2, I0] s)
 (.seq (.reg [q8, q9] fun c r s K => lN s n14 (r q3) fun v0 => c n24 [v0, (r q1)] s fun v1 s => xE n0 v1 c r s fun v2 s => xE n1 v1 c r s fun v3 s => alc s [zi, zu, zu, zu, zu] fun v4 s => sto s n5 v4 v2 fun s => K [v4, v3] s)
 (.seq (.seq (.reg [q25] fun c r s K => binK .neq (r q9) I0 fun v0 => K [v0] s)
 (.cond (.t q25) (.seq (.reg [q7] fun c r s K => h_op3_build [zn, zu, zu, zn, (.bool false), zn] [] c r s fun v0 s => sto s n6 (r q6) v0 fun s => K [(r q9)] s)
 .ret)
 .skip))
 (.seq (.reg [q10] fun c r s K => lN s n14 (r q3) fun v0 => c n21 [v0] s fun v1 s => xE n0 v1 c r s fun v2 s => xE n1 v1 c r s fun v3 s => alc s [zi, zi, zi, zi, zi, zi, zi, zi, zi] fun v4 s => sto s n9 v4 v2 fun s => K [v4] s)
 (.seq (.seq (.reg [q36] fun c r s K => lN s n9 (r q10) fun v0 => lN s n8 (r q5) fun v1 => c (nat_lit 193) [v0, v1] s fun v2 s => nott v2 fun v3 => K [v3] s)
 (.cond (.t q36) (.seq (.reg [q7] fun c r s K => h_op3_build [zn, zu, zu, zn, (.bool false), zn] [] c r s fun v0 s => sto s n6 (r q6) v0 fun s => K [I12] s)
 .ret)
 .skip))
 (.seq (.reg [q12] fun c r s K => alc s [zn, zu, zu, zn, (.bool false), zn] fun v0 s => K [v0] s)
 (.seq (.reg [q13] fun c r s K => h_op4_makeFunc (nat_lit 194) [(.c (r q8))] c r s fun v0 s => K [v0] s)
 (.seq (.reg [] fun c r s K => lN s n5 (r q8) fun v0 => fad n0 (r q5) fun v1 => ld s v1 fun v2 => c n88 [v0, v2] s fun v3 s => sto s n5 (r q8) v3 fun s => K [] s)
 (.seq (.reg [] fun c r s K => lN s n5 (r q8) fun v0 => fad n3 (r q5) fun v1 => ld s v1 fun v2 => h_op3_buildS n1 n1 [zu] [(n0, n1, (.c v2))] c r s fun v3 s => c n87 [v0, v3] s fun v4 s => sto s n5 (r q8) v4 fun s => K [] s)
 (.seq (.seq (.reg [q50] fun c r s K => fad n7 (r q10) fun v0 => ld s v0 fun v1 => binK .gtr v1 I0 fun v2 => K [v2] s)
 (.cond (.t q50) (.seq (.reg [q14] fun c r s K => h_op4_callV (.c (r q13)) [] c r s fun v0 s => K [v0] s)
 (.seq (.reg [] fun c r s K => h_op4_callV (.c (r q13)) [] c r s fun v0 s => h_op3_buildS n2 n1 [zu, zu] [(n0, n1, (.c (r q14))), (n1, n1, (.c v0))] c r s fun v1 s => fad n0 (r q12) fun v2 => sto s n1 v2 v1 fun s => K [] s)
 (.reg [] fun c r s K => lN s n5 (r q8) fun v0 => fad n1 (r q5) fun v1 => ld s v1 fun v2 => c n88 [v0, v2] s fun v3 s => sto s n5 (r q8) v3 fun s => K [] s)))
 .skip))
 (.seq (.reg [] fun c r s K => h_op4_callV (.c (r q13)) [] c r s fun v0 s => fad n1 (r q12) fun v1 => sto s n1 v1 v0 fun s => K [] s)
 (.seq (.reg [] fun c r s K => lN s n5 (r q8) fun v0 => fad n2 (r q5) fun v1 => ld s v1 fun v2 => c n88 [v0, v2] s fun v3 s => sto s n5 (r q8) v3 fun s => K [] s)
 (.seq (.reg [] fun c r s K => h_op4_callV (.c (r q13)) [] c r s fun v0 s => fad n2 (r q12) fun v1 => sto s n1 v1 v0 fun s => K [] s)
 (.seq (.reg [q15] fun c r s K => lN s n14 (r q3) fun v0 => c n26 [v0] s fun v1 s => xE n0 v1 c r s fun v2 s => xE n1 v1 c r s fun v3 s => alc s [zi, zi, zu, zi, zi] fun v4 s => sto s n5 v4 v2 fun s => K [v4] s)
 (.seq (.reg [] fun c r s K => lN s n5 (r q15) fun v0 => fad n4 (r q5) fun v1 => ld s v1 fun v2 => fad n5 (r q5) fun v3 => ld s v3 fun v4 => h_op3_build [zn, zn] [(n0, n1, (.c v2)), (n1, n1, (.c v4))] c r s fun v5 s => lN s n5 (r q8) fun v6 => c (nat_lit 195) [v0, v5, v6] s fun v7 s => xE n0 v7 c r s fun v8 s => xE n1 v7 c r s fun v9 s => xE n2 v7 c r s fun v10 s => fad n3 (r q12) fun v11 => sto s n1 v11 v8 fun s => sto s n5 (r q8) v9 fun s => K [] s)
 (.seq (.reg [] fun c r s K => lN s n5 (r q8) fun v0 => fad n6 (r q5) fun v1 => ld s v1 fun v2 => fad n0 (r q3) fun v3 => fad n3 v3 fun v4 => ld s v4 fun v5 => c n58 [v0, v2, v5] s fun v6 s => xE n0 v6 c r s fun v7 s => xE n1 v6 c r s fun v8 s => sto s n5 (r q8) v7 fun s => fad n4 (r q12) fun v10 => sto s n1 v10 v8 fun s => K [] s)
 (.seq (.seq (.reg [q103, q104] fun c r s K => fad n0 (r q3) fun v0 => fad n2 v0 fun v1 => ld s v1 fun v2 => K [v2, I0] s)
 (.block n0 (.loop (.seq (.reg [q105] fun c r s K => binK .lss (r q104) (r q103) fun v0 => K [v0] s)
 (.seq (.cond (.t q105) .skip
 (.exit n0))
 (.seq (.block n1 (.seq (.reg [q17] fun c r s K => K [I0] s)
 (.seq (.reg [q17] fun c r s K => lN s n5 (r q8) fun v0 => fad n1 (r q10) fun v1 => ld s v1 fun v2 => fad n2 (r q10) fun v3 => ld s v3 fun v4 => binK .add v2 v4 fun v5 => c n59 [v0, v5] s fun v6 s => xE n0 v6 c r s fun v7 s => xE n1 v6 c r s fun v8 s => sto s n5 (r q8) v7 fun s => K [v8] s)
 (.reg [] fun c r s K => fad n5 (r q12) fun v0 => ld s v0 fun v1 => h_op3_buildS n1 n1 [zi] [(n0, n1, (.c (r q17)))] c r s fun v2 s => xA n1 n8 v1 v2 c r s fun v3 s => fad n5 (r q12) fun v4 => sto s n1 v4 v3 fun s => K [] s))))
 (.reg [q104] fun c r s K => binK .add (r q104) I1 fun v0 => K [v0] s)))))))
 (.seq (.reg [q7] fun c r s K => lN s n6 (r q12) fun v0 => sto s n6 (r q6) v0 fun s => K [I0] s)
 .ret)))))))))))))))))), [(.cellN n6 q6), (.tmp q7)], [q0, q1, q2], [q19, q20, q21, q18, q22, q23, q24, q26, q27, q29, q30, q28, q31, q32, q11, q33, q34, q35, q37, q38, q39, q40, q41, q42, q43, q44, q45, q46, q47, q48, q49, q51, q52, q53, q54, q55, q56, q57, q58, q59, q60, q61, q62, q63, q64, q65, q66, q67, q68, q69, q70, q71, q73, q74, q72, q75, q76, q16, q78, q79, q80, q81, q82, q83, q84, q85, q77, q86, q87, q88, q89, q91, q92, q93, q94, q95, q96, q97, q90, q98, q99, q100, q101, q102, q107, q108, q109, q110, q111, q112, q113, q106, q114, q115, q116, q117, q118, q119, q120, q121, q122, q123]⟩
/- attestor/lowdegree.Follow -/
noncomputable def cf195 : HF := ⟨
(.seq (.reg [q3, q4, q5, q6, q7, q8] fun c r s K => bxx s (r q0) fun v0 s => bxx s (r q1) fun v1 s => bxx s (r q2) fun v2 s => alc s [zi, zu, zu, zu, zu] fun v3 s => K [v0, v1, v2, (.sc zn), v3, I0] s)
 (.seq (.block n0 (.seq (.reg [q12] fun c r s K => lN s n5 (r q3) fun v0 => c n140 [v0] s fun v1 s => nott v1 fun v2 => jf v2 (fad n0 (r q5)) s fun v3 s => jf v2 (ld s v3) s fun v4 s => jf v2 (fad n0 (r q3)) s fun v5 s => jf v2 (fad n0 v5) s fun v6 s => jf v2 (ld s v6) s fun v7 s => jf v2 (binK .neq v4 v7) s fun v8 s => pck v2 tt v8 fun v9 => K [v9] s)
 (.cond (.t q12) (.seq (.reg [q6, q8] fun c r s K => h_op3_build [zi, zu, zu, zu, zu] [] c r s fun v0 s => sto s n5 (r q7) v0 fun s => K [(.sc zn), I1] s)
 .ret)
 (.seq (.reg [q25] fun c r s K => lN s n5 (r q3) fun v0 => lN s n2 (r q4) fun v1 => c (nat_lit 316) [v0, v1] s fun v2 s => nott v2 fun v3 => K [v3] s)
 (.cond (.t q25) (.seq (.reg [q6, q8] fun c r s K => h_op3_build [zi, zu, zu, zu, zu] [] c r s fun v0 s => sto s n5 (r q7) v0 fun s => K [(.sc zn), I12] s)
 .ret)
 .skip)))))
 (.seq (.reg [q9] fun c r s K => fad n0 (r q4) fun v0 => ld s v0 fun v1 => lnS v1 fun v2 => xM n1 n8 [zu] v2 v2 c r s fun v3 s => K [v3] s)
 (.seq (.seq (.reg [q36, q37, q38] fun c r s K => fad n0 (r q4) fun v0 => ld s v0 fun v1 => lnS v1 fun v2 => K [v1, v2, I0] s)
 (.block n1 (.loop (.seq (.reg [q39] fun c r s K => binK .lss (r q38) (r q37) fun v0 => K [v0] s)
 (.seq (.cond (.t q39) .skip
 (.exit n1))
 (.seq (.block n2 (.seq (.reg [q10, q11] fun c r s K => ixs n1 (r q36) (r q38) fun v0 => ld s v0 fun v1 => K [(r q38), v1] s)
 (.reg [] fun c r s K => lN s n5 (r q5) fun v0 => c n88 [v0, (r q11)] s fun v1 s => c n135 [v1] s fun v2 s => xE n0 v2 c r s fun v3 s => xE n1 v2 c r s fun v4 s => sto s n5 (r q5) v3 fun s => ixs n1 (r q9) (r q10) fun v6 => sto s n1 v6 v4 fun s => K [] s)))
 (.reg [q38] fun c r s K => binK .add (r q38) I1 fun v0 => K [v0] s)))))))
 (.seq (.reg [q6, q8] fun c r s K => lN s n5 (r q5) fun v0 => fad n1 (r q4) fun v1 => ld s v1 fun v2 => c n87 [v0, v2] s fun v3 s => sto s n5 (r q7) v3 fun s => K [(r q9), I0] s)
 .ret))))), [(.tmp q6), (.cellN n5 q7), (.tmp q8)], [q0, q1, q2], [q13, q14, q15, q16, q17, q18, q19, q20, q21, q22, q23, q24, q26, q27, q28, q29, q30, q31, q32, q33, q34, q35, q40, q41, q42, q44, q45, q46, q47, q48, q49, q43, q50, q51, q52, q53, q54, q55, q56, q57, q58]⟩
/- attestor/verifier.Draws$1 -/
noncomputable def cf194 : HF := ⟨
(.seq (.reg [q1] fun c r s K => K [U0] s)
 (.seq (.reg [q2] fun c r s K => K [U0] s)
 (.seq (.reg [q2] fun c r s K => lN s n5 (r q0) fun v0 => c n135 [v0] s fun v1 s => xE n0 v1 c r s fun v2 s => xE n1 v1 c r s fun v3 s => sto s n5 (r q0) v2 fun s => K [v3] s)
 (.seq (.reg [q1] fun c r s K => K [(r q2)] s)
 .ret)))), [(.tmp q1)], [q0], [q4, q5, q3, q6, q7, q8]⟩
/- attestor/proof.Fits -/
noncomputable def cf193 : HF := ⟨
(.seq (.reg [q2, q3, q4] fun c r s K => bxx s (r q0) fun v0 s => bxx s (r q1) fun v1 s => alc s [(.bool false)] fun v2 s => K [v0, v1, v2] s)
 (.seq (.seq (.drw [q25] fun c r s K => (fun z m => dN z m n1 n0 s n9 (r q2) fun v0 m s => dw3 m n2 n1 s (fun s q => c (nat_lit 206) [v0] s q) fun v1 m s => nott v1 fun v2 => jnD false v2 (fun jj => fad n4 (r q3) fun v => jj v m s) m s fun v3 m s => jnD false v2 (fun jj => dL z m n32 n31 s v3 jj) m s fun v4 m s => jnD false v2 (fun jj => lnS v4 fun v => jj v m s) m s fun v5 m s => jnD false v2 (fun jj => dN z m n128 n15 s n9 (r q2) jj) m s fun v6 m s => jnD false v2 (fun jj => dw3 m (nat_lit 256) n143 s (fun s q => c (nat_lit 310) [v6] s q) jj) m s fun v7 m s => jnD false v2 (fun jj => binK .neq v5 v7 fun v => jj v m s) m s fun v8 m s => pck v2 tt v8 fun v9 => jnD false v9 (fun jj => fad n7 (r q3) fun v => jj v m s) m s fun v10 m s => jnD false v9 (fun jj => dL z m (nat_lit 8192) (nat_lit 8191) s v10 jj) m s fun v11 m s => jnD false v9 (fun jj => lnS v11 fun v => jj v m s) m s fun v12 m s => jnD false v9 (fun jj => fad n4 (r q2) fun v => jj v m s) m s fun v13 m s => jnD false v9 (fun jj => dL z m (nat_lit 65536) (nat_lit 36863) s v13 jj) m s fun v14 m s => jnD false v9 (fun jj => binK .neq v12 v14 fun v => jj v m s) m s fun v15 m s => pck v9 tt v15 fun v16 => K [v16] s) s.next mk0)
 (.cond (.t q25) (.seq (.reg [] fun c r s K => sto s n1 (r q4) ff fun s => K [] s)
 .ret)
 .skip))
 (.seq (.seq (.reg [q29] fun c r s K => fad n7 (r q3) fun v0 => ld s v0 fun v1 => h_op4_makeFunc (nat_lit 312) [(.c (r q2))] c r s fun v2 s => c (nat_lit 311) [v1, v2] s fun v3 s => K [v3] s)
 (.cond (.t q29) (.seq (.reg [] fun c r s K => sto s n1 (r q4) ff fun s => K [] s)
 .ret)
 .skip))
 (.seq (.seq (.reg [q31] fun c r s K => lN s n9 (r q2) fun v0 => c (nat_lit 313) [v0] s fun v1 s => K [v1] s)
 (.block n0 (.rng (nat_lit 193) n0 (.t q31) [q32] (.reg [q5] fun c r s K => alc s [zb, zi, zi, zi] fun v0 s => sto s n4 v0 (r q32) fun s => K [v0] s)
 (.block n1 (.seq (.drw [q6] fun c r s K => (fun z m => dw3 m n1 n0 s (fun s q => c (nat_lit 209) [] s q) fun v0 m s => fad n0 (r q5) fun v1 => dL z m n4 n2 s v1 fun v2 m s => ixs n1 v0 v2 fun v3 => dL z m n16 n15 s v3 fun v4 m s => dN z m n32 n0 s n4 (r q5) fun v5 m s => dw3 m n64 n63 s (fun s q => h_op4_callV (.c v4) [(.c (r q3)), (.c v5)] c r s q) fun v6 m s => dw3 m n128 n127 s (fun s q => c (nat_lit 314) [v6] s q) fun v7 m s => K [v7] s) s.next mk0)
 (.seq (.reg [q52] fun c r s K => lnS (r q6) fun v0 => fad n3 (r q5) fun v1 => ld s v1 fun v2 => binK .neq v0 v2 fun v3 => jf v3 (fad n0 (r q2)) s fun v4 s => jf v3 (ld s v4) s fun v5 s => mf v3 (r q6) s fun v6 s => jn false v3 (fun j => c (nat_lit 315) [v5, v6] s j) s fun v7 s => jf v3 (nott v7) s fun v8 s => pck v3 tt v8 fun v9 => K [v9] s)
 (.cond (.t q52) (.seq (.reg [] fun c r s K => sto s n1 (r q4) ff fun s => K [] s)
 .ret)
 .skip)))))))
 (.seq (.reg [] fun c r s K => sto s n1 (r q4) tt fun s => K [] s)
 .ret))))), [(.cell1 q4)], [q0, q1], [q7, q8, q9, q10, q11, q12, q13, q14, q15, q16, q17, q18, q19, q20, q21, q22, q23, q24, q26, q27, q28, q30, q33, q34, q35, q36, q37, q38, q39, q40, q41, q42, q43, q44, q45, q46, q47, q48, q49, q50, q51]⟩
/- (attestor/proof.list).get -/
noncomputable def cf314 : HF := ⟨
(.seq (.reg [q1, q2] fun c r s K => bxx s (r q0) fun v0 s => K [v0, (.sc zn)] s)
 (.seq (.block n0 (.seq (.reg [q6] fun c r s K => fad n0 (r q1) fun v0 => ld s v0 fun v1 => h_op4_eqv .ptr true (.c v1) (.c (.sc .nilp)) c r s fun v2 s => K [v2] s)
 (.cond (.t q6) (.seq (.reg [q2] fun c r s K => fad n0 (r q1) fun v0 => ld s v0 fun v1 => xC v1 c r s fun v2 s => ld s v2 fun v3 => K [v3] s)
 .ret)
 (.seq (.reg [q14] fun c r s K => fad n2 (r q1) fun v0 => ld s v0 fun v1 => h_op4_eqv .ptr true (.c v1) (.c (.sc .nilp)) c r s fun v2 s => K [v2] s)
 (.cond (.t q14) (.seq (.reg [q2] fun c r s K => fad n2 (r q1) fun v0 => ld s v0 fun v1 => xC v1 c r s fun v2 s => ld s v2 fun v3 => h_op3_buildS n1 n1 [zu] [(n0, n1, (.c v3))] c r s fun v4 s => K [v4] s)
 .ret)
 (.seq (.reg [q23] fun c r s K => fad n3 (r q1) fun v0 => ld s v0 fun v1 => h_op4_eqv .ptr true (.c v1) (.c (.sc .nilp)) c r s fun v2 s => K [v2] s)
 (.cond (.t q23) (.seq (.reg [q2] fun c r s K => fad n3 (r q1) fun v0 => ld s v0 fun v1 => xC v1 c r s fun v2 s => h_op3_sliceA n8 n1 (.c v2) none none none c r s fun v3 s => K [v3] s)
 .ret)
 .skip)))))))
 (.seq (.reg [q3] fun c r s K => fad n1 (r q1) fun v0 => ld s v0 fun v1 => xC v1 c r s fun v2 s => ld s v2 fun v3 => lnS v3 fun v4 => binK .mul I2 v4 fun v5 => xM n1 n8 [zu] I0 v5 c r s fun v6 s => K [v6] s)
 (.seq (.seq (.reg [q41, q42, q43] fun c r s K => fad n1 (r q1) fun v0 => ld s v0 fun v1 => xC v1 c r s fun v2 s => ld s v2 fun v3 => lnS v3 fun v4 => K [v3, v4, I0] s)
 (.block n1 (.loop (.seq (.reg [q44] fun c r s K => binK .lss (r q43) (r q42) fun v0 => K [v0] s)
 (.seq (.cond (.t q44) .skip
 (.exit n1))
 (.seq (.block n2 (.seq (.reg [q5] fun c r s K => ixs n2 (r q41) (r q43) fun v0 => lN s n2 v0 fun v1 => alc s [zu, zu] fun v2 s => sto s n2 v2 v1 fun s => K [v2] s)
 (.reg [q3] fun c r s K => h_op3_sliceA n2 n1 (.c (r q5)) none none none c r s fun v0 s => xA n1 n8 (r q3) v0 c r s fun v1 s => K [v1] s)))
 (.reg [q43] fun c r s K => binK .add (r q43) I1 fun v0 => K [v0] s)))))))
 (.seq (.reg [q2] fun c r s K => K [(r q3)] s)
 .ret))))), [(.tmp q2)], [q0], [q7, q8, q9, q10, q11, q12, q13, q15, q16, q17, q18, q19, q20, q21, q22, q24, q25, q26, q27, q28, q29, q30, q31, q32, q33, q34, q35, q36, q37, q38, q39, q40, q45, q46, q47, q48, q49, q50, q51]⟩
/- slices.ContainsFunc[[]attestor/api.Opening,attestor/api.Opening] -/
noncomputable def cf311 : HF := ⟨
(.seq (.reg [q4] fun c r s K => K [ff] s)
 (.seq (.reg [q4] fun c r s K => c (nat_lit 379) [(r q0), (r q1)] s fun v0 s => binK .geq v0 I0 fun v1 => K [v1] s)
 .ret)), [(.tmp q4)], [q0, q1], [q5, q6, q7, q8]⟩
/- slices.IndexFunc[[]attestor/api.Opening,attestor/api.Opening] -/
noncomputable def cf379 : HF := ⟨
(.seq (.reg [q4] fun c r s K => K [I0] s)
 (.seq (.seq (.reg [q7, q8] fun c r s K => lnS (r q0) fun v0 => K [v0, I0] s)
 (.block n0 (.loop (.seq (.reg [q9] fun c r s K => binK .lss (r q8) (r q7) fun v0 => K [v0] s)
 (.seq (.cond (.t q9) .skip
 (.exit n0))
 (.seq (.block n1 (.seq (.reg [q5] fun c r s K => K [(r q8)] s)
 (.seq (.reg [q16] fun c r s K => ixs n13 (r q0) (r q5) fun v0 => lN s n13 v0 fun v1 => h_op4_callV (.c (r q1)) [(.c v1)] c r s fun v2 s => K [v2] s)
 (.cond (.t q16) (.seq (.reg [q4] fun c r s K => K [(r q5)] s)
 .ret)
 .skip))))
 (.reg [q8] fun c r s K => binK .add (r q8) I1 fun v0 => K [v0] s)))))))
 (.seq (.reg [q4] fun c r s K => (fun v0 => K [v0] s) (.sc (.int .i64 (.negSucc n0))))
 .ret))), [(.tmp q4)], [q0, q1], [q6, q10, q11, q12, q13, q14, q15, q17, q18]⟩
/- attestor/proof.Fits$1 -/
noncomputable def cf312 : HF := ⟨
(.seq (.reg [q2, q3] fun c r s K => bxx s (r q0) fun v0 s => K [v0, ff] s)
 (.seq (.drw [q3] fun c r s K => (fun z m => fad n12 (r q2) fun v0 => dL z m n2 n1 s v0 fun v1 m s => lnS v1 fun v2 => dN z m n8 n0 s n9 (r q1) fun v3 m s => dw3 m n16 n8 s (fun s q => c (nat_lit 310) [v3] s q) fun v4 m s => binK .neq v2 v4 fun v5 => K [v5] s) s.next mk0)
 .ret)), [(.tmp q3)], [q0, q1], [q4, q5, q6, q7, q8, q9]⟩
/- attestor/attestorlaw18.example -/
noncomputable def cf33 : HF := ⟨
(.seq (.reg [q0, q1, q2] fun c r s K => alc s [zi, zi, zi, zi, zi, zi, zi, zi, zn, zn, zn, zn, zi, zn] fun v0 s => alc s [zn, zn, zn, zu, zn, zn, zu, zn] fun v1 s => K [v0, v1, ff] s)
 (.seq (.reg [q3] fun c r s K => h_op3_build [zi, zi, zi, zi] [(n0, n1, (.c I1)), (n1, n1, (.c I1)), (n2, n1, (.c I2))] c r s fun v0 s => alc s [zi, zi, zi, zi] fun v1 s => sto s n4 v1 v0 fun s => K [v1] s)
 (.seq (.drw [q4, q5] fun c r s K => (fun z m => dw3 m n1 n0 s (fun s q => c n36 [] s q) fun v0 m s => dN z m n2 n0 s n4 (r q3) fun v1 m s => dw3 m n4 n3 s (fun s q => c n10 [v0, v1] s q) fun v2 m s => xE n0 v2 c r s fun v3 s => xE n1 v2 c r s fun v4 s => dw1 m n64 (fun q => alc s [zi, zi, zi, zi, zi, zi, zi, zi, zn, zn, zn, zn, zi, zn] q) fun v5 m s => dS z m n128 n95 s n14 v5 v3 fun _ m s => K [v5, v4] s) s.next mk0)
 (.seq (.drw [q6, q7] fun c r s K => (fun z m => dw3 m n1 n0 s (fun s q => c n36 [] s q) fun v0 m s => dN z m n2 n0 s n4 (r q3) fun v1 m s => dw1 m n4 (fun q => h_op3_buildS n4 n1 [zu, zu, zu, zu] [(n0, n1, (.c U7)), (n1, n1, (.c U8)), (n2, n1, (.c U9)), (n3, n1, (.c U10))] c r s q) fun v2 m s => dw1 m n8 (fun q => h_op3_buildS n1 n1 [zn] [(n0, n1, (.c v2))] c r s q) fun v3 m s => h_op3_build [zn, zn] [(n1, n1, (.c v3))] c r s fun v4 s => dw3 m n32 n31 s (fun s q => c n16 [v0, v1, v4] s q) fun v5 m s => xE n0 v5 c r s fun v6 s => xE n1 v5 c r s fun v7 s => dw1 m (nat_lit 512) (fun q => alc s [zn, zn, zn, zu, zn, zn, zu, zn] q) fun v8 m s => dS z m (nat_lit 1024) (nat_lit 767) s n8 v8 v6 fun _ m s => K [v8, v7] s) s.next mk0)
 (.seq (.drw [q2] fun c r s K => (fun z m => dN z m n1 n0 s n14 (r q4) fun v0 m s => dN z m n2 n0 s n8 (r q6) fun v1 m s => binK .eql (r q5) I0 fun v2 => jnD true v2 (fun jj => jj (r q7) m s) m s fun v3 m s => jnD true v2 (fun jj => binK .eql v3 I0 fun v => jj v m s) m s fun v4 m s => pck v2 v4 ff fun v5 => jnD true v5 (fun jj => fad n7 (r q6) fun v => jj v m s) m s fun v6 m s => jnD true v5 (fun jj => dL z m (nat_lit 1024) (nat_lit 1020) s v6 jj) m s fun v7 m s => jnD true v5 (fun jj => lnS v7 fun v => jj v m s) m s fun v8 m s => jnD true v5 (fun jj => binK .eql v8 I2 fun v => jj v m s) m s fun v9 m s => pck v5 v9 ff fun v10 => jnD true v10 (fun jj => fad n7 (r q6) fun v => jj v m s) m s fun v11 m s => jnD true v10 (fun jj => dL z m (nat_lit 65536) (nat_lit 65532) s v11 jj) m s fun v12 m s => jnD true v10 (fun jj => ixs n13 v12 I0 fun v => jj v m s) m s fun v13 m s => jnD true v10 (fun jj => fad n1 v13 fun v => jj v m s) m s fun v14 m s => jnD true v10 (fun jj => dL z m (nat_lit 524288) (nat_lit 524284) s v14 jj) m s fun v15 m s => jnD true v10 (fun jj => lnS v15 fun v => jj v m s) m s fun v16 m s => jnD true v10 (fun jj => binK .eql v16 I1 fun v => jj v m s) m s fun v17 m s => pck v10 v17 ff fun v18 => dS z m (nat_lit 8388608) (nat_lit 32765) s n14 (r q0) v0 fun _ m s => dS z m (nat_lit 16777216) (nat_lit 8421375) s n8 (r q1) v1 fun _ m s => K [v18] s) s.next mk0)
 .ret))))), [(.cellN n14 q0), (.cellN n8 q1), (.tmp q2)], [], [q8, q10, q11, q12, q9, q13, q14, q16, q17, q18, q19, q20, q21, q15, q22, q23, q24, q25, q26, q27, q28, q29, q30, q31, q32, q33, q34, q35, q36, q37, q38, q39, q40, q41, q42, q43, q44, q45, q46]⟩
end Go.Proofs.YtebbnkahklbhiaaGreatDoor.Ev
