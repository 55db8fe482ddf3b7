/- Compiled functions of the translated program, and that each is what the compiler makes of it; no conditions. -/
import Derived.Test.YtkneccbdfpnnlaaGreatDoorEvC
import Derived.KernelRfl
namespace Go.Proofs.YtkneccbdfpnnlaaGreatDoor.Ev
set_option maxRecDepth 100000
set_option linter.unusedVariables false
noncomputable def cf3:HF:=⟨
(.seq (.reg [q4,q6] fun c r s K=>bxx s (r q1) fun v0 s=>K [v0,ff] s)
 (.seq (.reg [q0,q2] fun c r s K=>c n4 [(r q0)] s fun v0 s=>c n5 [(r q2)] s fun v1 s=>K [v0,v1] s)
 (.seq (.reg [q7,q8] fun c r s K=>lN s n4 (r q4) fun v0=>c n6 [(r q0),v0,(r q2)] s fun v1 s=>xE n0 v1 c r s fun v2 s=>xE n1 v1 c r s fun v3 s=>alc s [zn,zn] fun v4 s=>sto s n2 v4 v2 fun s=>K [v4,v3] s)
 (.seq (.reg [q9,q10] fun c r s K=>lN s n4 (r q4) fun v0=>c n7 [(r q0),v0,(r q2)] s fun v1 s=>xE n0 v1 c r s fun v2 s=>xE n1 v1 c r s fun v3 s=>alc s [zn,zn] fun v4 s=>sto s n2 v4 v2 fun s=>K [v4,v3] s)
 (.seq (.reg [q6] fun c r s K=>binK .eql (r q8) (r q10) fun v0=>jt v0 (fad n1 (r q7)) s fun v1 s=>jt v0 (ld s v1) s fun v2 s=>jt v0 (fad n1 (r q9)) s fun v3 s=>jt v0 (ld s v3) s fun v4 s=>jn true v0 (fun j=>c n8 [v2,v4] s j) s fun v5 s=>pck v0 v5 ff fun v6=>jt v6 (fad n0 (r q7)) s fun v7 s=>jt v6 (ld s v7) s fun v8 s=>jt v6 (fad n0 (r q9)) s fun v9 s=>jt v6 (ld s v9) s fun v10 s=>jn true v6 (fun j=>c n9 [v8,v10] s j) s fun v11 s=>pck v6 v11 ff fun v12=>jn true v12 (fun j=>c n10 [] s j) s fun v13 s=>pck v12 v13 ff fun v14=>K [v14] s)
 .ret))))),[(.tmp q6)],[q0,q1,q2],[q11,q12,q13,q14,q16,q17,q18,q19,q15,q20,q21,q23,q24,q25,q26,q22,q27,q28,q29,q30,q31,q32,q33,q34,q35,q36,q37,q38,q39,q40,q41,q42,q43,q44,q45,q46,q47,q48]⟩
noncomputable def cf10:HF:=⟨
(.seq (.reg [q0] fun c r s K=>K [ff] s)
 (.seq (.reg [q1,q2] fun c r s K=>c n24 [] s fun v0 s=>h_op3_build [zb,zb,zb,zb] [(n0,n1,(.c B1)),(n1,n1,(.c B2)),(n2,n1,(.c B3)),(n3,n1,(.c B4))] c r s fun v1 s=>c n6 [v0,v1,I4] s fun v2 s=>xE n0 v2 c r s fun v3 s=>xE n1 v2 c r s fun v4 s=>alc s [zn,zn] fun v5 s=>sto s n2 v5 v3 fun s=>K [v5,v4] s)
 (.seq (.seq (.reg [q32] fun c r s K=>binK .neq (r q2) I0 fun v0=>jf v0 (fad n1 (r q1)) s fun v1 s=>jf v0 (ld s v1) s fun v2 s=>jf v0 (lnS v2) s fun v3 s=>jf v0 (binK .neq v3 (i6 n50)) s fun v4 s=>pck v0 tt v4 fun v5=>jf v5 (fad n1 (r q1)) s fun v6 s=>jf v5 (ld s v6) s fun v7 s=>jf v5 (ixs n1 v7 I25) s fun v8 s=>jf v5 (ld s v8) s fun v9 s=>jf v5 (lnS v9) s fun v10 s=>jf v5 (binK .neq v10 I16) s fun v11 s=>pck v5 tt v11 fun v12=>jf v12 (fad n0 (r q1)) s fun v13 s=>jf v12 (ld s v13) s fun v14 s=>jf v12 (lnS v14) s fun v15 s=>jf v12 (binK .neq v15 I8) s fun v16 s=>pck v12 tt v16 fun v17=>K [v17] s)
 (.cond (.t q32) (.seq (.reg [q0] fun c r s K=>K [ff] s)
 .ret)
 .skip))
 (.seq (.reg [q3,q4] fun c r s K=>c n24 [] s fun v0 s=>c n25 [v0,I4] s fun v1 s=>xE n0 v1 c r s fun v2 s=>xE n1 v1 c r s fun v3 s=>alc s [zi,zi,zi,zi,zn,zn,zn,zn] fun v4 s=>sto s n8 v4 v2 fun s=>K [v4,v3] s)
 (.seq (.reg [q0] fun c r s K=>binK .eql (r q4) I0 fun v0=>jt v0 (fad n2 (r q3)) s fun v1 s=>jt v0 (ld s v1) s fun v2 s=>jt v0 (binK .eql v2 (i6 n50)) s fun v3 s=>pck v0 v3 ff fun v4=>jt v4 (fad n5 (r q3)) s fun v5 s=>jt v4 (ld s v5) s fun v6 s=>jt v4 (lnS v6) s fun v7 s=>jt v4 (binK .eql v7 (i6 n57)) s fun v8 s=>pck v4 v8 ff fun v9=>jt v9 (fad n0 (r q1)) s fun v10 s=>jt v9 (ld s v10) s fun v11 s=>jt v9 (ixs n1 v11 I4) s fun v12 s=>jt v9 (ld s v12) s fun v13 s=>jt v9 (binK .eql v13 U7) s fun v14 s=>pck v9 v14 ff fun v15=>jt v15 (fad n1 (r q1)) s fun v16 s=>jt v15 (ld s v16) s fun v17 s=>jt v15 (ixs n1 v17 I25) s fun v18 s=>jt v15 (ld s v18) s fun v19 s=>jt v15 (ixs n1 v19 I0) s fun v20 s=>jt v15 (ld s v20) s fun v21 s=>jt v15 (binK .eql v21 U5) s fun v22 s=>pck v15 v22 ff fun v23=>jt v23 (fad n1 (r q1)) s fun v24 s=>jt v23 (ld s v24) s fun v25 s=>jt v23 (ixs n1 v25 I1) s fun v26 s=>jt v23 (ld s v26) s fun v27 s=>jt v23 (ixs n1 v27 I1) s fun v28 s=>jt v23 (ld s v28) s fun v29 s=>jt v23 (binK .eql v29 U5) s fun v30 s=>pck v23 v30 ff fun v31=>jt v31 (fad n1 (r q1)) s fun v32 s=>jt v31 (ld s v32) s fun v33 s=>jt v31 (ixs n1 v33 I1) s fun v34 s=>jt v31 (ld s v34) s fun v35 s=>jt v31 (ixs n1 v35 I2) s fun v36 s=>jt v31 (ld s v36) s fun v37 s=>jt v31 (binK .eql v37 U7) s fun v38 s=>pck v31 v38 ff fun v39=>jt v39 (fad n1 (r q1)) s fun v40 s=>jt v39 (ld s v40) s fun v41 s=>jt v39 (ixs n1 v41 I21) s fun v42 s=>jt v39 (ld s v42) s fun v43 s=>jt v39 (ixs n1 v43 I1) s fun v44 s=>jt v39 (ld s v44) s fun v45 s=>jt v39 (binK .eql v45 (u6 (nat_lit 8452))) s fun v46 s=>pck v39 v46 ff fun v47=>K [v47] s)
 .ret))))),[(.tmp q0)],[],[q6,q7,q8,q5,q9,q10,q11,q12,q13,q14,q15,q16,q17,q18,q19,q20,q21,q22,q23,q24,q25,q26,q27,q28,q29,q30,q31,q34,q35,q33,q36,q37,q38,q39,q40,q41,q42,q43,q44,q45,q46,q47,q48,q49,q50,q51,q52,q53,q54,q55,q56,q57,q58,q59,q60,q61,q62,q63,q64,q65,q66,q67,q68,q69,q70,q71,q72,q73,q74,q75,q76,q77,q78,q79,q80,q81,q82,q83,q84,q85,q86,q87,q88,q89,q90,q91,q92,q93]⟩
noncomputable def cf25:HF:=⟨
(.seq (.reg [q4,q5] fun c r s K=>alc s [zi,zi,zi,zi,zn,zn,zn,zn] fun v0 s=>K [v0,I0] s)
 (.seq (.seq (.reg [q6] fun c r s K=>c n11 [(r q0),(r q1)] s fun v0 s=>K [v0] s)
 (.seq (.reg [q20] fun c r s K=>binK .neq (r q6) I0 fun v0=>K [v0] s)
 (.cond (.t q20) (.seq (.reg [q5] fun c r s K=>h_op3_build [zi,zi,zi,zi,zn,zn,zn,zn] [] c r s fun v0 s=>sto s n8 (r q4) v0 fun s=>K [(r q6)] s)
 .ret)
 .skip)))
 (.seq (.reg [q7] fun c r s K=>c n48 [] s fun v0 s=>h_op3_build [zi,zi,zi,zi,zn,zn,zn,zn] [(n0,n1,(.c I3)),(n1,n1,(.c (r q1))),(n2,n1,(.c (i6 n50))),(n3,n1,(.c I8)),(n5,n1,(.c v0))] c r s fun v1 s=>alc s [zi,zi,zi,zi,zn,zn,zn,zn] fun v2 s=>sto s n8 v2 v1 fun s=>K [v2] s)
 (.seq (.reg [] fun c r s K=>xM n1 n24 [zn] I4 I4 c r s fun v0 s=>fad n4 (r q7) fun v1=>sto s n1 v1 v0 fun s=>K [] s)
 (.seq (.seq (.reg [q29,q30] fun c r s K=>xS true I1 (r q1) c r s fun v0 s=>K [v0,I0] s)
 (.block n0 (.loop (.seq (.reg [q31] fun c r s K=>binK .lss (r q30) (r q29) fun v0=>K [v0] s)
 (.seq (.cond (.t q31) .skip
 (.exit n0))
 (.seq (.block n1 (.seq (.reg [q8] fun c r s K=>K [(r q30)] s)
 (.seq (.reg [q9] fun c r s K=>c n29 [(r q0),(r q8)] s fun v0 s=>alc s [zb,zb,zb,zb] fun v1 s=>sto s n4 v1 v0 fun s=>K [v1] s)
 (.seq (.drw [q46,q47] fun c r s K=>(fun z m=>cnv .u64 (r q8) fun v0=>binK .rem (r q8) I16 fun v1=>cnv .u64 v1 fun v2=>dN z m n32 n0 s n4 (r q9) fun v3 m s=>dw3 m n64 n32 s (fun s q=>c n32 [v3] s q) fun v4 m s=>fad n3 (r q9) fun v5=>dL z m (nat_lit 256) n128 s v5 fun v6 m s=>cnv .u64 v6 fun v7=>h_op3_build [zu,zu,zu,zu] [(n0,n1,(.c v0)),(n1,n1,(.c v2)),(n2,n1,(.c v4)),(n3,n1,(.c v7))] c r s fun v8 s=>K [v8,I0] s) s.next mk0)
 (.block n2 (.loop (.seq (.reg [q48] fun c r s K=>binK .lss (r q47) I4 fun v0=>K [v0] s)
 (.seq (.cond (.t q48) .skip
 (.exit n2))
 (.seq (.block n3 (.seq (.reg [q10,q11] fun c r s K=>h_op2_idxV n4 n1 false (.c (r q46)) (.c (r q47)) c r s fun v0 s=>K [(r q47),v0] s)
 (.drw [] fun c r s K=>(fun z m=>fad n4 (r q7) fun v0=>dL z m n2 n1 s v0 fun v1 m s=>fad n4 (r q7) fun v2=>dL z m n16 n8 s v2 fun v3 m s=>ixs n1 v3 (r q10) fun v4=>dL z m n128 n120 s v4 fun v5 m s=>dw1 m (nat_lit 512) (fun q=>h_op3_buildS n1 n1 [zu] [(n0,n1,(.c (r q11)))] c r s q) fun v6 m s=>dw5 z m (nat_lit 1024) (nat_lit 1016) s (.more (.more (.append n1 n8 (.c v5) (.c v6)))) r (fun s q=>xA n1 n8 v5 v6 c r s q) fun v7 m s=>ixs n1 v1 (r q10) fun v8=>dS z m (nat_lit 4096) (nat_lit 4095) s n1 v8 v7 fun _ m s=>K [] s) s.next mk0)))
 (.reg [q47] fun c r s K=>binK .add (r q47) I1 fun v0=>K [v0] s))))))))))
 (.reg [q30] fun c r s K=>binK .add (r q30) I1 fun v0=>K [v0] s)))))))
 (.seq (.reg [q12] fun c r s K=>h_op3_buildS n1 n1 [zi] [(n0,n1,(.c I32))] c r s fun v0 s=>c n49 [v0] s fun v1 s=>c n50 [I0] s fun v2 s=>c n51 [I34] s fun v3 s=>c n51 [I11] s fun v4 s=>h_op3_buildS n3 n2 [zb,zi,zb,zi,zb,zi] [(n0,n2,(.c v2)),(n2,n2,(.c v3)),(n4,n2,(.c v4))] c r s fun v5 s=>xA n2 n16 v1 v5 c r s fun v6 s=>K [v6] s)
 (.seq (.reg [] fun c r s K=>h_op3_buildS n1 n1 [zn] [(n0,n1,(.c (r q12)))] c r s fun v0 s=>h_op3_buildS n4 n1 [zi,zi,zi,zi] [(n0,n1,(.c I35)),(n1,n1,(.c I36)),(n2,n1,(.c I37)),(n3,n1,(.c I38))] c r s fun v1 s=>c n49 [v1] s fun v2 s=>h_op3_buildS n1 n1 [zn] [(n0,n1,(.c v2))] c r s fun v3 s=>h_op3_build [zn,zn] [(n0,n1,(.c v0)),(n1,n1,(.c v3))] c r s fun v4 s=>h_op3_buildS n1 n2 [zn,zn] [(n0,n2,(.c v4))] c r s fun v5 s=>fad n6 (r q7) fun v6=>sto s n1 v6 v5 fun s=>K [] s)
 (.seq (.seq (.reg [q80,q81] fun c r s K=>c n17 [] s fun v0 s=>K [v0,I0] s)
 (.block n4 (.loop (.seq (.reg [q82] fun c r s K=>binK .lss (r q81) I8 fun v0=>K [v0] s)
 (.seq (.cond (.t q82) .skip
 (.exit n4))
 (.seq (.block n5 (.seq (.reg [q13,q14] fun c r s K=>h_op2_idxV n8 n1 false (.c (r q80)) (.c (r q81)) c r s fun v0 s=>K [(r q81),v0] s)
 (.seq (.reg [q15] fun c r s K=>h_op3_buildS n1 n1 [zi] [(n0,n1,(.c (r q14)))] c r s fun v0 s=>c n49 [v0] s fun v1 s=>c n50 [I1] s fun v2 s=>h_op3_buildS n1 n2 [zb,zi] [(n0,n2,(.c v2))] c r s fun v3 s=>binK .add (i6 n42) (r q13) fun v4=>c n51 [v4] s fun v5 s=>h_op3_build [zn,zn,zb,zi] [(n0,n1,(.c v1)),(n1,n1,(.c v3)),(n2,n2,(.c v5))] c r s fun v6 s=>alc s [zn,zn,zb,zi] fun v7 s=>sto s n4 v7 v6 fun s=>K [v7] s)
 (.seq (.seq (.reg [q94] fun c r s K=>K [(r q14)] s)
 (.block n6 (.seq (.reg [q95] fun c r s K=>binK .eql (r q94) I0 fun v0=>K [v0] s)
 (.cond (.t q95) (.seq (.reg [] fun c r s K=>h_op3_buildS n3 n1 [zi,zi,zi] [(n0,n1,(.c I0)),(n1,n1,(.c I21)),(n2,n1,(.c I22))] c r s fun v0 s=>c n49 [v0] s fun v1 s=>fad n0 (r q15) fun v2=>sto s n1 v2 v1 fun s=>K [] s)
 (.reg [] fun c r s K=>c n50 [I0] s fun v0 s=>c n50 [I2] s fun v1 s=>c n50 [I3] s fun v2 s=>h_op3_buildS n3 n2 [zb,zi,zb,zi,zb,zi] [(n0,n2,(.c v0)),(n2,n2,(.c v1)),(n4,n2,(.c v2))] c r s fun v3 s=>fad n1 (r q15) fun v4=>sto s n1 v4 v3 fun s=>K [] s))
 (.seq (.reg [q105] fun c r s K=>binK .eql (r q94) (i6 n40) fun v0=>K [v0] s)
 (.cond (.t q105) (.reg [] fun c r s K=>c n50 [I0] s fun v0 s=>h_op3_buildS n1 n2 [zb,zi] [(n0,n2,(.c v0))] c r s fun v1 s=>fad n1 (r q15) fun v2=>sto s n1 v2 v1 fun s=>K [] s)
 .skip))))))
 (.reg [] fun c r s K=>fad n7 (r q7) fun v0=>ld s v0 fun v1=>lN s n4 (r q15) fun v2=>h_op3_buildS n1 n4 [zn,zn,zb,zi] [(n0,n4,(.c v2))] c r s fun v3 s=>xA n4 n64 v1 v3 c r s fun v4 s=>fad n7 (r q7) fun v5=>sto s n1 v5 v4 fun s=>K [] s)))))
 (.reg [q81] fun c r s K=>binK .add (r q81) I1 fun v0=>K [v0] s)))))))
 (.seq (.reg [q5] fun c r s K=>lN s n8 (r q7) fun v0=>sto s n8 (r q4) v0 fun s=>K [I0] s)
 .ret))))))))),[(.cellN n8 q4),(.tmp q5)],[q0,q1],[q16,q17,q18,q19,q21,q22,q23,q24,q25,q26,q27,q28,q32,q33,q34,q35,q36,q37,q38,q39,q40,q41,q42,q43,q44,q45,q49,q50,q51,q52,q53,q54,q55,q56,q57,q58,q59,q60,q61,q62,q63,q64,q65,q66,q67,q68,q69,q70,q71,q72,q73,q74,q75,q76,q77,q78,q79,q83,q84,q85,q86,q87,q88,q89,q90,q91,q92,q93,q96,q97,q98,q99,q100,q101,q102,q103,q104,q106,q107,q108,q109,q110,q111,q112,q113,q114,q115,q116,q117]⟩
noncomputable def cf17:HF:=⟨
(.seq (.reg [q0] fun c r s K=>alc s [zi,zi,zi,zi,zi,zi,zi,zi] fun v0 s=>K [v0] s)
 (.seq (.reg [] fun c r s K=>h_op3_build [zi,zi,zi,zi,zi,zi,zi,zi] [(n0,n1,(.c I0)),(n1,n1,(.c I26)),(n2,n1,(.c I27)),(n3,n1,(.c I28)),(n4,n1,(.c I29)),(n5,n1,(.c I32)),(n6,n1,(.c I33)),(n7,n1,(.c (i6 n40)))] c r s fun v0 s=>sto s n8 (r q0) v0 fun s=>K [] s)
 .ret)),[(.cellN n8 q0)],[],[q1]⟩
noncomputable def cf51:HF:=⟨
(.seq (.reg [q2] fun c r s K=>alc s [zb,zi] fun v0 s=>K [v0] s)
 (.seq (.reg [] fun c r s K=>h_op3_build [zb,zi] [(n0,n1,(.c B1)),(n1,n1,(.c (r q0)))] c r s fun v0 s=>sto s n2 (r q2) v0 fun s=>K [] s)
 .ret)),[(.cellN n2 q2)],[q0],[q3,q4]⟩
noncomputable def cf50:HF:=⟨
(.seq (.reg [q2] fun c r s K=>alc s [zb,zi] fun v0 s=>K [v0] s)
 (.seq (.reg [] fun c r s K=>h_op3_build [zb,zi] [(n0,n1,(.c B3)),(n1,n1,(.c (r q0)))] c r s fun v0 s=>sto s n2 (r q2) v0 fun s=>K [] s)
 .ret)),[(.cellN n2 q2)],[q0],[q3,q4]⟩
noncomputable def cf49:HF:=⟨
(.seq (.reg [q2] fun c r s K=>K [(.sc zn)] s)
 (.seq (.reg [q3] fun c r s K=>K [(.sc zn)] s)
 (.seq (.seq (.reg [q6,q7,q8] fun c r s K=>lnS (r q0) fun v0=>K [(r q0),v0,I0] s)
 (.block n0 (.loop (.seq (.reg [q9] fun c r s K=>binK .lss (r q8) (r q7) fun v0=>K [v0] s)
 (.seq (.cond (.t q9) .skip
 (.exit n0))
 (.seq (.block n1 (.seq (.reg [q5] fun c r s K=>ixs n1 (r q6) (r q8) fun v0=>ld s v0 fun v1=>K [v1] s)
 (.reg [q3] fun c r s K=>c n51 [(r q5)] s fun v0 s=>h_op3_buildS n1 n2 [zb,zi] [(n0,n2,(.c v0))] c r s fun v1 s=>xA n2 n16 (r q3) v1 c r s fun v2 s=>K [v2] s)))
 (.reg [q8] fun c r s K=>binK .add (r q8) I1 fun v0=>K [v0] s)))))))
 (.seq (.reg [q2] fun c r s K=>K [(r q3)] s)
 .ret)))),[(.tmp q2)],[q0],[q10,q11,q12,q13,q14,q15,q16,q17,q18]⟩
noncomputable def cf32:HF:=⟨
(.seq (.reg [q1,q2] fun c r s K=>bxx s (r q0) fun v0 s=>K [v0,U0] s)
 (.seq (.reg [q3] fun c r s K=>fad n1 (r q1) fun v0=>ld s v0 fun v1=>binK .add B8 v1 fun v2=>xS true U1 v2 c r s fun v3 s=>fad n2 (r q1) fun v4=>ld s v4 fun v5=>binK .add B12 v5 fun v6=>xS true U1 v6 c r s fun v7 s=>binK .or v3 v7 fun v8=>K [v8] s)
 (.seq (.seq (.reg [q15] fun c r s K=>fad n0 (r q1) fun v0=>ld s v0 fun v1=>binK .neq v1 B0 fun v2=>K [v2] s)
 (.cond (.t q15) (.reg [q3] fun c r s K=>fad n0 (r q1) fun v0=>ld s v0 fun v1=>binK .sub v1 B1 fun v2=>xS true U1 v2 c r s fun v3 s=>binK .or (r q3) v3 fun v4=>K [v4] s)
 .skip))
 (.seq (.reg [q2] fun c r s K=>K [(r q3)] s)
 .ret)))),[(.tmp q2)],[q0],[q4,q5,q6,q7,q8,q9,q10,q11,q12,q13,q14,q16,q17,q18,q19,q20,q21,q22]⟩
noncomputable def cf29:HF:=⟨
(.seq (.reg [q4] fun c r s K=>alc s [zb,zb,zb,zb] fun v0 s=>K [v0] s)
 (.seq (.seq (.reg [q12] fun c r s K=>binK .lss (r q1) I0 fun v0=>mf v0 (r q1) s fun v1 s=>mf v0 (r q0) s fun v2 s=>jf v0 (lnS v2) s fun v3 s=>jf v0 (binK .geq v1 v3) s fun v4 s=>pck v0 tt v4 fun v5=>K [v5] s)
 (.cond (.t q12) (.seq (.reg [] fun c r s K=>h_op3_build [zb,zb,zb,zb] [] c r s fun v0 s=>sto s n4 (r q4) v0 fun s=>K [] s)
 .ret)
 .skip))
 (.seq (.reg [] fun c r s K=>ixs n4 (r q0) (r q1) fun v0=>lN s n4 v0 fun v1=>sto s n4 (r q4) v1 fun s=>K [] s)
 .ret))),[(.cellN n4 q4)],[q0,q1],[q5,q6,q7,q8,q9,q10,q11,q13,q14,q15,q16,q17]⟩
noncomputable def cf48:HF:=⟨
(.seq (.reg [q0] fun c r s K=>K [(.sc zn)] s)
 (.seq (.reg [q1] fun c r s K=>alc s [zn] fun v0 s=>K [v0] s)
 (.seq (.seq (.reg [q4] fun c r s K=>K [I0] s)
 (.block n0 (.loop (.seq (.reg [q5] fun c r s K=>binK .lss (r q4) I4 fun v0=>K [v0] s)
 (.seq (.cond (.t q5) .skip
 (.exit n0))
 (.seq (.block n1 (.seq (.reg [q2] fun c r s K=>K [(r q4)] s)
 (.reg [] fun c r s K=>binK .add I1 (r q2) fun v0=>c n65 [v0] s fun v1 s=>c n67 [(r q2)] s fun v2 s=>h_op3_buildS n1 n1 [zn] [(n0,n1,(.c v2))] c r s fun v3 s=>c n66 [v1,v3] s fun v4 s=>h_op3_buildS n1 n1 [zn] [(n0,n1,(.c v4))] c r s fun v5 s=>c n64 [(r q1),B3,v5] s fun v6 s=>K [] s)))
 (.reg [q4] fun c r s K=>binK .add (r q4) I1 fun v0=>K [v0] s)))))))
 (.seq (.reg [] fun c r s K=>c n65 [I0] s fun v0 s=>c n65 [(i6 n41)] s fun v1 s=>h_op3_buildS n2 n1 [zn,zn] [(n0,n1,(.c v0)),(n1,n1,(.c v1))] c r s fun v2 s=>c n64 [(r q1),B3,v2] s fun v3 s=>K [] s)
 (.seq (.seq (.reg [q21] fun c r s K=>K [I0] s)
 (.block n2 (.loop (.seq (.reg [q22] fun c r s K=>binK .lss (r q21) I4 fun v0=>K [v0] s)
 (.seq (.cond (.t q22) .skip
 (.exit n2))
 (.seq (.block n3 (.seq (.reg [q3] fun c r s K=>K [(r q21)] s)
 (.reg [] fun c r s K=>binK .add I1 (r q3) fun v0=>c n65 [v0] s fun v1 s=>binK .add I4 (r q3) fun v2=>c n67 [v2] s fun v3 s=>h_op3_buildS n1 n1 [zn] [(n0,n1,(.c v3))] c r s fun v4 s=>c n66 [v1,v4] s fun v5 s=>h_op3_buildS n1 n1 [zn] [(n0,n1,(.c v5))] c r s fun v6 s=>c n64 [(r q1),B4,v6] s fun v7 s=>K [] s)))
 (.reg [q21] fun c r s K=>binK .add (r q21) I1 fun v0=>K [v0] s)))))))
 (.seq (.reg [] fun c r s K=>c n68 [I5,I8] s fun v0 s=>c n65 [I39] s fun v1 s=>c n65 [(i6 n40)] s fun v2 s=>h_op3_buildS n3 n1 [zn,zn,zn] [(n0,n1,(.c v0)),(n1,n1,(.c v1)),(n2,n1,(.c v2))] c r s fun v3 s=>c n64 [(r q1),B4,v3] s fun v4 s=>K [] s)
 (.seq (.reg [] fun c r s K=>c n69 [(r q1)] s fun v0 s=>K [] s)
 (.seq (.reg [] fun c r s K=>c n70 [(r q1)] s fun v0 s=>K [] s)
 (.seq (.reg [] fun c r s K=>c n71 [(r q1)] s fun v0 s=>K [] s)
 (.seq (.reg [] fun c r s K=>c n72 [(r q1)] s fun v0 s=>K [] s)
 (.seq (.reg [q0] fun c r s K=>ld s (r q1) fun v0=>K [v0] s)
 .ret))))))))))),[(.tmp q0)],[],[q6,q7,q8,q9,q10,q11,q12,q13,q14,q15,q16,q17,q18,q19,q20,q23,q24,q25,q26,q27,q28,q29,q30,q31,q32,q33,q34,q35,q36,q37,q38,q39,q40,q41,q42,q43,q44]⟩
noncomputable def cf72:HF:=⟨
(.seq (.reg [q2] fun c r s K=>c n98 [U1] s fun v0 s=>K [v0] s)
 (.seq (.seq (.reg [q8] fun c r s K=>K [I0] s)
 (.block n0 (.loop (.seq (.reg [q9] fun c r s K=>binK .lss (r q8) I4 fun v0=>K [v0] s)
 (.seq (.cond (.t q9) .skip
 (.exit n0))
 (.seq (.block n1 (.seq (.reg [q3] fun c r s K=>K [(r q8)] s)
 (.reg [] fun c r s K=>binK .add I1 (r q3) fun v0=>c n99 [v0] s fun v1 s=>binK .add I1 (r q3) fun v2=>c n65 [v2] s fun v3 s=>binK .add I13 (r q3) fun v4=>c n65 [v4] s fun v5 s=>c n65 [I25] s fun v6 s=>binK .add I1 (r q3) fun v7=>c n65 [v7] s fun v8 s=>h_op3_buildS n1 n1 [zn] [(n0,n1,(.c v8))] c r s fun v9 s=>c n66 [v6,v9] s fun v10 s=>h_op3_buildS n2 n1 [zn,zn] [(n0,n1,(.c v5)),(n1,n1,(.c v10))] c r s fun v11 s=>c n94 [v11] s fun v12 s=>h_op3_buildS n2 n1 [zn,zn] [(n0,n1,(.c v3)),(n1,n1,(.c v12))] c r s fun v13 s=>c n66 [v1,v13] s fun v14 s=>h_op3_buildS n1 n1 [zn] [(n0,n1,(.c v14))] c r s fun v15 s=>c n64 [(r q0),B2,v15] s fun v16 s=>K [] s)))
 (.reg [q8] fun c r s K=>binK .add (r q8) I1 fun v0=>K [v0] s)))))))
 (.seq (.reg [q4] fun c r s K=>c n65 [I31] s fun v0 s=>c n65 [I22] s fun v1 s=>c n65 [I0] s fun v2 s=>h_op3_buildS n2 n1 [zn,zn] [(n0,n1,(.c v2)),(n1,n1,(.c (r q2)))] c r s fun v3 s=>c n66 [v1,v3] s fun v4 s=>h_op3_buildS n2 n1 [zn,zn] [(n0,n1,(.c v0)),(n1,n1,(.c v4))] c r s fun v5 s=>c n94 [v5] s fun v6 s=>K [v6] s)
 (.seq (.reg [q5] fun c r s K=>c n65 [I39] s fun v0 s=>h_op3_buildS n1 n1 [zn] [(n0,n1,(.c v0))] c r s fun v1 s=>c n66 [(r q2),v1] s fun v2 s=>K [v2] s)
 (.seq (.reg [q6] fun c r s K=>c n99 [I38] s fun v0 s=>h_op3_buildS n1 n1 [zn] [(n0,n1,(.c v0))] c r s fun v1 s=>c n66 [(r q2),v1] s fun v2 s=>K [v2] s)
 (.reg [] fun c r s K=>c n99 [I0] s fun v0 s=>c n65 [I0] s fun v1 s=>c n68 [I5,I8] s fun v2 s=>h_op3_buildS n3 n1 [zn,zn,zn] [(n0,n1,(.c v1)),(n1,n1,(.c v2)),(n2,n1,(.c (r q4)))] c r s fun v3 s=>c n66 [v0,v3] s fun v4 s=>c n65 [I39] s fun v5 s=>c n99 [I35] s fun v6 s=>c n65 [I35] s fun v7 s=>h_op3_buildS n1 n1 [zn] [(n0,n1,(.c v7))] c r s fun v8 s=>c n66 [v6,v8] s fun v9 s=>h_op3_buildS n2 n1 [zn,zn] [(n0,n1,(.c v5)),(n1,n1,(.c v9))] c r s fun v10 s=>c n94 [v10] s fun v11 s=>c n65 [(i6 n40)] s fun v12 s=>c n65 [I39] s fun v13 s=>c n99 [I36] s fun v14 s=>c n65 [I36] s fun v15 s=>h_op3_buildS n2 n1 [zn,zn] [(n0,n1,(.c v15)),(n1,n1,(.c (r q2)))] c r s fun v16 s=>c n66 [v14,v16] s fun v17 s=>h_op3_buildS n2 n1 [zn,zn] [(n0,n1,(.c v13)),(n1,n1,(.c v17))] c r s fun v18 s=>c n94 [v18] s fun v19 s=>c n99 [I35] s fun v20 s=>c n65 [I35] s fun v21 s=>h_op3_buildS n2 n1 [zn,zn] [(n0,n1,(.c v21)),(n1,n1,(.c (r q2)))] c r s fun v22 s=>c n66 [v20,v22] s fun v23 s=>h_op3_buildS n2 n1 [zn,zn] [(n0,n1,(.c (r q5))),(n1,n1,(.c v23))] c r s fun v24 s=>c n94 [v24] s fun v25 s=>h_op3_buildS n2 n1 [zn,zn] [(n0,n1,(.c v19)),(n1,n1,(.c v25))] c r s fun v26 s=>c n66 [v12,v26] s fun v27 s=>c n65 [I39] s fun v28 s=>c n99 [I37] s fun v29 s=>c n65 [I37] s fun v30 s=>h_op3_buildS n1 n1 [zn] [(n0,n1,(.c v30))] c r s fun v31 s=>c n66 [v29,v31] s fun v32 s=>h_op3_buildS n3 n1 [zn,zn,zn] [(n0,n1,(.c v28)),(n1,n1,(.c (r q6))),(n2,n1,(.c v32))] c r s fun v33 s=>c n94 [v33] s fun v34 s=>c n99 [I37] s fun v35 s=>h_op3_buildS n3 n1 [zn,zn,zn] [(n0,n1,(.c (r q5))),(n1,n1,(.c (r q6))),(n2,n1,(.c v35))] c r s fun v36 s=>c n94 [v36] s fun v37 s=>h_op3_buildS n5 n1 [zn,zn,zn,zn,zn] [(n0,n1,(.c v4)),(n1,n1,(.c v11)),(n2,n1,(.c v27)),(n3,n1,(.c v34)),(n4,n1,(.c v37))] c r s fun v38 s=>c n64 [(r q0),B2,v38] s fun v39 s=>K [] s)))))),[],[q0],[q7,q10,q11,q12,q13,q14,q15,q16,q17,q18,q19,q20,q21,q22,q23,q24,q25,q26,q27,q28,q29,q30,q31,q32,q33,q34,q35,q36,q37,q38,q39,q40,q41,q42,q43,q44,q45,q46,q47,q48,q49,q50,q51,q52,q53,q54,q55,q56,q57,q58,q59,q60,q61,q62,q63,q64,q65,q66,q67,q68,q69,q70,q71,q72,q73,q74,q75,q76,q77,q78,q79,q80,q81,q82,q83,q84,q85,q86,q87,q88,q89,q90,q91,q92,q93,q94,q95,q96,q97]⟩
noncomputable def cf94:HF:=⟨
(.seq (.reg [q2] fun c r s K=>K [(.sc zn)] s)
 (.seq (.reg [q3] fun c r s K=>c n98 [U1] s fun v0 s=>K [v0] s)
 (.seq (.seq (.reg [q12,q13,q14] fun c r s K=>lnS (r q0) fun v0=>K [(r q0),v0,I0] s)
 (.block n0 (.loop (.seq (.reg [q15] fun c r s K=>binK .lss (r q14) (r q13) fun v0=>K [v0] s)
 (.seq (.cond (.t q15) .skip
 (.exit n0))
 (.seq (.block n1 (.seq (.reg [q5] fun c r s K=>ixs n1 (r q12) (r q14) fun v0=>ld s v0 fun v1=>K [v1] s)
 (.seq (.reg [q6] fun c r s K=>K [(.sc zn)] s)
 (.seq (.seq (.reg [q18,q19,q20] fun c r s K=>lnS (r q3) fun v0=>K [(r q3),v0,I0] s)
 (.block n2 (.loop (.seq (.reg [q21] fun c r s K=>binK .lss (r q20) (r q19) fun v0=>K [v0] s)
 (.seq (.cond (.t q21) .skip
 (.exit n2))
 (.seq (.block n3 (.seq (.reg [q8] fun c r s K=>ixs n2 (r q18) (r q20) fun v0=>lN s n2 v0 fun v1=>alc s [zu,zn] fun v2 s=>sto s n2 v2 v1 fun s=>K [v2] s)
 (.seq (.reg [q24,q25,q26] fun c r s K=>lnS (r q5) fun v0=>K [(r q5),v0,I0] s)
 (.block n4 (.loop (.seq (.reg [q27] fun c r s K=>binK .lss (r q26) (r q25) fun v0=>K [v0] s)
 (.seq (.cond (.t q27) .skip
 (.exit n4))
 (.seq (.block n5 (.seq (.reg [q10] fun c r s K=>ixs n2 (r q24) (r q26) fun v0=>lN s n2 v0 fun v1=>alc s [zu,zn] fun v2 s=>sto s n2 v2 v1 fun s=>K [v2] s)
 (.drw [q6] fun c r s K=>(fun z m=>fad n0 (r q8) fun v0=>dL z m n4 n2 s v0 fun v1 m s=>fad n0 (r q10) fun v2=>dL z m n16 n8 s v2 fun v3 m s=>dw3 m n32 n30 s (fun s q=>c n108 [I3,v1,v3] s q) fun v4 m s=>fad n1 (r q8) fun v5=>dL z m n128 n64 s v5 fun v6 m s=>fad n1 (r q10) fun v7=>dL z m (nat_lit 512) (nat_lit 256) s v7 fun v8 m s=>dw1 m (nat_lit 1024) (fun q=>h_op3_buildS n2 n1 [zn,zn] [(n0,n1,(.c v6)),(n1,n1,(.c v8))] c r s q) fun v9 m s=>dw3 m (nat_lit 2048) (nat_lit 2046) s (fun s q=>c n109 [v9] s q) fun v10 m s=>h_op3_build [zu,zn] [(n0,n1,(.c v4)),(n1,n1,(.c v10))] c r s fun v11 s=>dw1 m (nat_lit 8192) (fun q=>h_op3_buildS n1 n2 [zu,zn] [(n0,n2,(.c v11))] c r s q) fun v12 m s=>dw5 z m (nat_lit 16384) (nat_lit 16383) s (.more (.more (.append n2 n32 (.c (r q6)) (.c v12)))) r (fun s q=>xA n2 n32 (r q6) v12 c r s q) fun v13 m s=>K [v13] s) s.next mk0)))
 (.reg [q26] fun c r s K=>binK .add (r q26) I1 fun v0=>K [v0] s)))))))))
 (.reg [q20] fun c r s K=>binK .add (r q20) I1 fun v0=>K [v0] s)))))))
 (.reg [q3] fun c r s K=>K [(r q6)] s)))))
 (.reg [q14] fun c r s K=>binK .add (r q14) I1 fun v0=>K [v0] s)))))))
 (.seq (.reg [q2] fun c r s K=>K [(r q3)] s)
 .ret)))),[(.tmp q2)],[q0],[q11,q16,q17,q22,q23,q28,q29,q30,q31,q32,q33,q34,q35,q36,q37,q38,q39,q40,q41,q42,q43,q44,q45,q46,q47,q48,q49]⟩
noncomputable def cf109:HF:=⟨
(.seq (.reg [q2] fun c r s K=>K [(.sc zn)] s)
 (.seq (.reg [q3] fun c r s K=>K [I0] s)
 (.seq (.seq (.reg [q9,q10,q11] fun c r s K=>lnS (r q0) fun v0=>K [(r q0),v0,I0] s)
 (.block n0 (.loop (.seq (.reg [q12] fun c r s K=>binK .lss (r q11) (r q10) fun v0=>K [v0] s)
 (.seq (.cond (.t q12) .skip
 (.exit n0))
 (.seq (.block n1 (.seq (.reg [q5] fun c r s K=>ixs n1 (r q9) (r q11) fun v0=>ld s v0 fun v1=>K [v1] s)
 (.seq (.reg [q3] fun c r s K=>lnS (r q5) fun v0=>binK .add (r q3) v0 fun v1=>K [v1] s)
 (.seq (.reg [q20] fun c r s K=>binK .lss (r q3) I0 fun v0=>K [v0] s)
 (.cond (.t q20) (.reg [] fun c r s K=>h_op4_iface n9 (.c (.sc (.lit (.string ⟨#[108,101,110,32,111,117,116,32,111,102,32,114,97,110,103,101]⟩)))) c r s fun v0 s=>h_op4_bad n102 c r s fun _ s=>K [] s)
 .skip)))))
 (.reg [q11] fun c r s K=>binK .add (r q11) I1 fun v0=>K [v0] s)))))))
 (.seq (.reg [q6] fun c r s K=>c n112 [(.sc zn),(r q3)] s fun v0 s=>K [v0] s)
 (.seq (.seq (.reg [q25,q26,q27] fun c r s K=>lnS (r q0) fun v0=>K [(r q0),v0,I0] s)
 (.block n2 (.loop (.seq (.reg [q28] fun c r s K=>binK .lss (r q27) (r q26) fun v0=>K [v0] s)
 (.seq (.cond (.t q28) .skip
 (.exit n2))
 (.seq (.block n3 (.seq (.reg [q8] fun c r s K=>ixs n1 (r q25) (r q27) fun v0=>ld s v0 fun v1=>K [v1] s)
 (.reg [q6] fun c r s K=>xA n2 n16 (r q6) (r q8) c r s fun v0 s=>K [v0] s)))
 (.reg [q27] fun c r s K=>binK .add (r q27) I1 fun v0=>K [v0] s)))))))
 (.seq (.reg [q2] fun c r s K=>K [(r q6)] s)
 .ret)))))),[(.tmp q2)],[q0],[q13,q14,q15,q16,q17,q18,q19,q21,q22,q23,q24,q29,q30,q31,q32,q33,q34,q35]⟩
noncomputable def cf112:HF:=⟨
(.seq (.reg [q4] fun c r s K=>K [(.sc zn)] s)
 (.seq (.seq (.reg [q6] fun c r s K=>binK .lss (r q1) I0 fun v0=>K [v0] s)
 (.cond (.t q6) (.reg [] fun c r s K=>h_op4_iface n9 (.c (.sc (.lit (.string ⟨#[99,97,110,110,111,116,32,98,101,32,110,101,103,97,116,105,118,101]⟩)))) c r s fun v0 s=>h_op4_bad n102 c r s fun _ s=>K [] s)
 .skip))
 (.seq (.seq (.reg [q1] fun c r s K=>h_op4_capOf (.c (r q0)) c r s fun v0 s=>lnS (r q0) fun v1=>binK .sub v0 v1 fun v2=>binK .sub (r q1) v2 fun v3=>K [v3] s)
 (.seq (.reg [q16] fun c r s K=>binK .gtr (r q1) I0 fun v0=>K [v0] s)
 (.cond (.t q16) (.reg [q0] fun c r s K=>h_op4_capOf (.c (r q0)) c r s fun v0 s=>h_op3_sliceS n2 (.c (r q0)) none (some (.c v0)) none c r s fun v1 s=>h_op3_appendZ n2 n16 [zb,zi] (.c v1) (.c (r q1)) c r s fun v2 s=>lnS (r q0) fun v3=>h_op3_sliceS n2 (.c v2) none (some (.c v3)) none c r s fun v4 s=>K [v4] s)
 .skip)))
 (.seq (.reg [q4] fun c r s K=>K [(r q0)] s)
 .ret)))),[(.tmp q4)],[q0,q1],[q5,q7,q8,q9,q10,q11,q12,q13,q14,q15,q17,q18,q19,q20,q21,q22,q23,q24,q25,q26]⟩
noncomputable def cf108:HF:=⟨
(.seq (.reg [q6] fun c r s K=>K [U0] s)
 (.seq (.reg [q7] fun c r s K=>c n55 [(r q0)] s fun v0 s=>K [v0] s)
 (.seq (.seq (.reg [q11] fun c r s K=>binK .eql (r q7) U0 fun v0=>K [v0] s)
 (.cond (.t q11) (.seq (.reg [q6] fun c r s K=>K [U0] s)
 .ret)
 .skip))
 (.seq (.drw [q6] fun c r s K=>(fun z m=>binK .rem (r q1) (r q7) fun v0=>binK .rem (r q2) (r q7) fun v1=>binK .mul v0 v1 fun v2=>binK .rem v2 (r q7) fun v3=>K [v3] s) s.next mk0)
 .ret)))),[(.tmp q6)],[q0,q1,q2],[q8,q9,q10,q12,q13,q14,q15,q16,q17,q18,q19,q20]⟩
noncomputable def cf55:HF:=⟨
(.seq (.reg [q2] fun c r s K=>K [U0] s)
 (.seq (.reg [q2] fun c r s K=>c n77 [(r q0)] s fun v0 s=>fld n0 n1 false v0 fun v1=>K [v1] s)
 .ret)),[(.tmp q2)],[q0],[q3,q4,q5]⟩
noncomputable def cf77:HF:=⟨
(.seq (.reg [q2] fun c r s K=>alc s [zu,zu,zi,zi,zn] fun v0 s=>K [v0] s)
 (.seq (.seq (.reg [q5] fun c r s K=>c n100 [(r q0)] s fun v0 s=>nott v0 fun v1=>K [v1] s)
 (.cond (.t q5) (.seq (.reg [] fun c r s K=>h_op3_build [zu,zu,zi,zi,zn] [] c r s fun v0 s=>sto s n5 (r q2) v0 fun s=>K [] s)
 .ret)
 .skip))
 (.seq (.reg [] fun c r s K=>ixA n4 n5 (.sc (.ptr n1 n0)) (r q0) fun v0=>lN s n5 v0 fun v1=>sto s n5 (r q2) v1 fun s=>K [] s)
 .ret))),[(.cellN n5 q2)],[q0],[q3,q4,q6,q7,q8,q9]⟩
noncomputable def cf100:HF:=⟨
(.seq (.reg [q2] fun c r s K=>K [ff] s)
 (.seq (.reg [q2] fun c r s K=>binK .geq (r q0) I0 fun v0=>mt v0 (r q0) s fun v1 s=>jt v0 (binK .lss v1 I4) s fun v2 s=>pck v0 v2 ff fun v3=>K [v3] s)
 .ret)),[(.tmp q2)],[q0],[q3,q4,q5,q6,q7,q8]⟩
noncomputable def cf99:HF:=⟨
(.seq (.reg [q2] fun c r s K=>K [(.sc zn)] s)
 (.seq (.reg [q2] fun c r s K=>h_op3_build [zb,zi] [(n0,n1,(.c B2)),(n1,n1,(.c (r q0)))] c r s fun v0 s=>h_op3_buildS n1 n2 [zb,zi] [(n0,n2,(.c v0))] c r s fun v1 s=>h_op3_build [zu,zn] [(n0,n1,(.c U1)),(n1,n1,(.c v1))] c r s fun v2 s=>h_op3_buildS n1 n2 [zu,zn] [(n0,n2,(.c v2))] c r s fun v3 s=>K [v3] s)
 .ret)),[(.tmp q2)],[q0],[q3,q4,q5,q6,q7]⟩
noncomputable def cf98:HF:=⟨
(.seq (.reg [q2] fun c r s K=>K [(.sc zn)] s)
 (.seq (.reg [q2] fun c r s K=>h_op3_build [zu,zn] [(n0,n1,(.c (r q0)))] c r s fun v0 s=>h_op3_buildS n1 n2 [zu,zn] [(n0,n2,(.c v0))] c r s fun v1 s=>K [v1] s)
 .ret)),[(.tmp q2)],[q0],[q3,q4,q5]⟩
noncomputable def cf71:HF:=⟨
(.reg [] fun c r s K=>c n65 [I39] s fun v0 s=>c n65 [I39] s fun v1 s=>h_op3_buildS n2 n1 [zn,zn] [(n0,n1,(.c v0)),(n1,n1,(.c v1))] c r s fun v2 s=>c n94 [v2] s fun v3 s=>c n65 [I39] s fun v4 s=>h_op3_buildS n1 n1 [zn] [(n0,n1,(.c v4))] c r s fun v5 s=>c n66 [v3,v5] s fun v6 s=>c n65 [(i6 n41)] s fun v7 s=>c n65 [I38] s fun v8 s=>c n65 [I37] s fun v9 s=>h_op3_buildS n2 n1 [zn,zn] [(n0,n1,(.c v8)),(n1,n1,(.c v9))] c r s fun v10 s=>c n94 [v10] s fun v11 s=>h_op3_buildS n2 n1 [zn,zn] [(n0,n1,(.c v7)),(n1,n1,(.c v11))] c r s fun v12 s=>c n91 [v12] s fun v13 s=>c n65 [I37] s fun v14 s=>h_op3_buildS n1 n1 [zn] [(n0,n1,(.c v14))] c r s fun v15 s=>c n66 [v13,v15] s fun v16 s=>h_op3_buildS n2 n1 [zn,zn] [(n0,n1,(.c v6)),(n1,n1,(.c v16))] c r s fun v17 s=>c n64 [(r q0),B1,v17] s fun v18 s=>K [] s),[],[q0],[q2,q3,q4,q5,q6,q7,q8,q9,q10,q11,q12,q13,q14,q15,q16,q17,q18,q19,q20,q21]⟩
noncomputable def cf91:HF:=⟨
(.seq (.reg [q2] fun c r s K=>K [(.sc zn)] s)
 (.seq (.reg [q2] fun c r s K=>c n106 [(r q0)] s fun v0 s=>K [v0] s)
 .ret)),[(.tmp q2)],[q0],[q3,q4]⟩
noncomputable def cf106:HF:=⟨
(.seq (.reg [q2] fun c r s K=>K [(.sc zn)] s)
 (.seq (.reg [q3] fun c r s K=>K [I0] s)
 (.seq (.seq (.reg [q9,q10,q11] fun c r s K=>lnS (r q0) fun v0=>K [(r q0),v0,I0] s)
 (.block n0 (.loop (.seq (.reg [q12] fun c r s K=>binK .lss (r q11) (r q10) fun v0=>K [v0] s)
 (.seq (.cond (.t q12) .skip
 (.exit n0))
 (.seq (.block n1 (.seq (.reg [q5] fun c r s K=>ixs n1 (r q9) (r q11) fun v0=>ld s v0 fun v1=>K [v1] s)
 (.seq (.reg [q3] fun c r s K=>lnS (r q5) fun v0=>binK .add (r q3) v0 fun v1=>K [v1] s)
 (.seq (.reg [q20] fun c r s K=>binK .lss (r q3) I0 fun v0=>K [v0] s)
 (.cond (.t q20) (.reg [] fun c r s K=>h_op4_iface n9 (.c (.sc (.lit (.string ⟨#[108,101,110,32,111,117,116,32,111,102,32,114,97,110,103,101]⟩)))) c r s fun v0 s=>h_op4_bad n102 c r s fun _ s=>K [] s)
 .skip)))))
 (.reg [q11] fun c r s K=>binK .add (r q11) I1 fun v0=>K [v0] s)))))))
 (.seq (.reg [q6] fun c r s K=>c n111 [(.sc zn),(r q3)] s fun v0 s=>K [v0] s)
 (.seq (.seq (.reg [q25,q26,q27] fun c r s K=>lnS (r q0) fun v0=>K [(r q0),v0,I0] s)
 (.block n2 (.loop (.seq (.reg [q28] fun c r s K=>binK .lss (r q27) (r q26) fun v0=>K [v0] s)
 (.seq (.cond (.t q28) .skip
 (.exit n2))
 (.seq (.block n3 (.seq (.reg [q8] fun c r s K=>ixs n1 (r q25) (r q27) fun v0=>ld s v0 fun v1=>K [v1] s)
 (.reg [q6] fun c r s K=>xA n2 n32 (r q6) (r q8) c r s fun v0 s=>K [v0] s)))
 (.reg [q27] fun c r s K=>binK .add (r q27) I1 fun v0=>K [v0] s)))))))
 (.seq (.reg [q2] fun c r s K=>K [(r q6)] s)
 .ret)))))),[(.tmp q2)],[q0],[q13,q14,q15,q16,q17,q18,q19,q21,q22,q23,q24,q29,q30,q31,q32,q33,q34,q35]⟩
noncomputable def cf111:HF:=⟨
(.seq (.reg [q4] fun c r s K=>K [(.sc zn)] s)
 (.seq (.seq (.reg [q6] fun c r s K=>binK .lss (r q1) I0 fun v0=>K [v0] s)
 (.cond (.t q6) (.reg [] fun c r s K=>h_op4_iface n9 (.c (.sc (.lit (.string ⟨#[99,97,110,110,111,116,32,98,101,32,110,101,103,97,116,105,118,101]⟩)))) c r s fun v0 s=>h_op4_bad n102 c r s fun _ s=>K [] s)
 .skip))
 (.seq (.seq (.reg [q1] fun c r s K=>h_op4_capOf (.c (r q0)) c r s fun v0 s=>lnS (r q0) fun v1=>binK .sub v0 v1 fun v2=>binK .sub (r q1) v2 fun v3=>K [v3] s)
 (.seq (.reg [q16] fun c r s K=>binK .gtr (r q1) I0 fun v0=>K [v0] s)
 (.cond (.t q16) (.reg [q0] fun c r s K=>h_op4_capOf (.c (r q0)) c r s fun v0 s=>h_op3_sliceS n2 (.c (r q0)) none (some (.c v0)) none c r s fun v1 s=>h_op3_appendZ n2 n32 [zu,zn] (.c v1) (.c (r q1)) c r s fun v2 s=>lnS (r q0) fun v3=>h_op3_sliceS n2 (.c v2) none (some (.c v3)) none c r s fun v4 s=>K [v4] s)
 .skip)))
 (.seq (.reg [q4] fun c r s K=>K [(r q0)] s)
 .ret)))),[(.tmp q4)],[q0,q1],[q5,q7,q8,q9,q10,q11,q12,q13,q14,q15,q17,q18,q19,q20,q21,q22,q23,q24,q25,q26]⟩
noncomputable def cf70:HF:=⟨
(.seq (.reg [q2] fun c r s K=>K [(.sc (.fn n96))] s)
 (.seq (.reg [q3] fun c r s K=>c n97 [I28,I29] s fun v0 s=>K [v0] s)
 (.seq (.reg [q4] fun c r s K=>c n92 [(r q3),(u6 (nat_lit 256))] s fun v0 s=>K [v0] s)
 (.seq (.reg [q5] fun c r s K=>c n98 [U1] s fun v0 s=>K [v0] s)
 (.reg [] fun c r s K=>c n65 [I25] s fun v0 s=>c n97 [I26,I27] s fun v1 s=>h_op3_buildS n1 n1 [zn] [(n0,n1,(.c v1))] c r s fun v2 s=>c n66 [v0,v2] s fun v3 s=>h_op4_callV (.c (r q2)) [(.c B1)] c r s fun v4 s=>c n65 [I25] s fun v5 s=>c n65 [I22] s fun v6 s=>h_op3_buildS n1 n1 [zn] [(n0,n1,(.c v6))] c r s fun v7 s=>c n66 [v5,v7] s fun v8 s=>h_op3_buildS n2 n1 [zn,zn] [(n0,n1,(.c v4)),(n1,n1,(.c v8))] c r s fun v9 s=>c n94 [v9] s fun v10 s=>h_op4_callV (.c (r q2)) [(.c B2)] c r s fun v11 s=>c n65 [I25] s fun v12 s=>c n65 [I24] s fun v13 s=>h_op3_buildS n1 n1 [zn] [(n0,n1,(.c v13))] c r s fun v14 s=>c n66 [v12,v14] s fun v15 s=>h_op3_buildS n2 n1 [zn,zn] [(n0,n1,(.c v11)),(n1,n1,(.c v15))] c r s fun v16 s=>c n94 [v16] s fun v17 s=>h_op4_callV (.c (r q2)) [(.c B3)] c r s fun v18 s=>c n65 [I23] s fun v19 s=>c n65 [I24] s fun v20 s=>h_op3_buildS n2 n1 [zn,zn] [(n0,n1,(.c v19)),(n1,n1,(.c v20))] c r s fun v21 s=>c n91 [v21] s fun v22 s=>c n65 [I25] s fun v23 s=>h_op3_buildS n2 n1 [zn,zn] [(n0,n1,(.c v23)),(n1,n1,(.c (r q4)))] c r s fun v24 s=>c n66 [v22,v24] s fun v25 s=>h_op3_buildS n2 n1 [zn,zn] [(n0,n1,(.c v18)),(n1,n1,(.c v25))] c r s fun v26 s=>c n94 [v26] s fun v27 s=>h_op4_callV (.c (r q2)) [(.c B4)] c r s fun v28 s=>c n65 [I23] s fun v29 s=>h_op3_buildS n2 n1 [zn,zn] [(n0,n1,(.c v29)),(n1,n1,(.c (r q4)))] c r s fun v30 s=>c n91 [v30] s fun v31 s=>c n65 [I24] s fun v32 s=>c n65 [I25] s fun v33 s=>h_op3_buildS n2 n1 [zn,zn] [(n0,n1,(.c v32)),(n1,n1,(.c v33))] c r s fun v34 s=>c n66 [v31,v34] s fun v35 s=>h_op3_buildS n2 n1 [zn,zn] [(n0,n1,(.c v28)),(n1,n1,(.c v35))] c r s fun v36 s=>c n94 [v36] s fun v37 s=>h_op4_callV (.c (r q2)) [(.c B5)] c r s fun v38 s=>c n65 [I23] s fun v39 s=>c n65 [I24] s fun v40 s=>h_op3_buildS n2 n1 [zn,zn] [(n0,n1,(.c v39)),(n1,n1,(.c v40))] c r s fun v41 s=>c n94 [v41] s fun v42 s=>c n65 [I25] s fun v43 s=>h_op3_buildS n2 n1 [zn,zn] [(n0,n1,(.c v43)),(n1,n1,(.c (r q4)))] c r s fun v44 s=>c n66 [v42,v44] s fun v45 s=>h_op3_buildS n2 n1 [zn,zn] [(n0,n1,(.c v38)),(n1,n1,(.c v45))] c r s fun v46 s=>c n94 [v46] s fun v47 s=>h_op4_callV (.c (r q2)) [(.c B6)] c r s fun v48 s=>c n65 [I25] s fun v49 s=>c n65 [I34] s fun v50 s=>h_op3_buildS n1 n1 [zn] [(n0,n1,(.c v50))] c r s fun v51 s=>c n66 [v49,v51] s fun v52 s=>h_op3_buildS n2 n1 [zn,zn] [(n0,n1,(.c v48)),(n1,n1,(.c v52))] c r s fun v53 s=>c n94 [v53] s fun v54 s=>c n68 [I5,I6] s fun v55 s=>h_op3_buildS n1 n1 [zn] [(n0,n1,(.c v55))] c r s fun v56 s=>c n66 [(r q5),v56] s fun v57 s=>c n65 [I25] s fun v58 s=>c n65 [I23] s fun v59 s=>h_op3_buildS n1 n1 [zn] [(n0,n1,(.c v59))] c r s fun v60 s=>c n66 [v58,v60] s fun v61 s=>h_op3_buildS n2 n1 [zn,zn] [(n0,n1,(.c v57)),(n1,n1,(.c v61))] c r s fun v62 s=>c n94 [v62] s fun v63 s=>h_op4_callV (.c (r q2)) [(.c B3)] c r s fun v64 s=>h_op4_callV (.c (r q2)) [(.c B4)] c r s fun v65 s=>h_op4_callV (.c (r q2)) [(.c B5)] c r s fun v66 s=>h_op3_buildS n3 n1 [zn,zn,zn] [(n0,n1,(.c v64)),(n1,n1,(.c v65)),(n2,n1,(.c v66))] c r s fun v67 s=>c n66 [(r q5),v67] s fun v68 s=>h_op3_buildS n2 n1 [zn,zn] [(n0,n1,(.c v68)),(n1,n1,(.c (r q3)))] c r s fun v69 s=>c n94 [v69] s fun v70 s=>h_op4_callV (.c (r q2)) [(.c B7)] c r s fun v71 s=>c n65 [I34] s fun v72 s=>c n65 [I23] s fun v73 s=>h_op3_buildS n1 n1 [zn] [(n0,n1,(.c v73))] c r s fun v74 s=>c n66 [v72,v74] s fun v75 s=>h_op3_buildS n2 n1 [zn,zn] [(n0,n1,(.c v71)),(n1,n1,(.c v75))] c r s fun v76 s=>c n94 [v76] s fun v77 s=>c n65 [I24] s fun v78 s=>c n97 [I32,I33] s fun v79 s=>h_op3_buildS n1 n1 [zn] [(n0,n1,(.c v79))] c r s fun v80 s=>c n66 [v78,v80] s fun v81 s=>h_op4_callV (.c (r q2)) [(.c B8)] c r s fun v82 s=>c n65 [I23] s fun v83 s=>c n65 [I30] s fun v84 s=>h_op3_buildS n3 n1 [zn,zn,zn] [(n0,n1,(.c v82)),(n1,n1,(.c v83)),(n2,n1,(.c v84))] c r s fun v85 s=>c n94 [v85] s fun v86 s=>c n65 [I31] s fun v87 s=>h_op3_buildS n1 n1 [zn] [(n0,n1,(.c v87))] c r s fun v88 s=>c n66 [v86,v88] s fun v89 s=>h_op4_callV (.c (r q2)) [(.c B8)] c r s fun v90 s=>c n65 [I23] s fun v91 s=>h_op3_buildS n2 n1 [zn,zn] [(n0,n1,(.c v90)),(n1,n1,(.c v91))] c r s fun v92 s=>c n94 [v92] s fun v93 s=>c n65 [I31] s fun v94 s=>c n65 [I23] s fun v95 s=>h_op3_buildS n2 n1 [zn,zn] [(n0,n1,(.c v94)),(n1,n1,(.c v95))] c r s fun v96 s=>c n94 [v96] s fun v97 s=>h_op3_buildS n1 n1 [zn] [(n0,n1,(.c v97))] c r s fun v98 s=>c n66 [v93,v98] s fun v99 s=>c n65 [I30] s fun v100 s=>c n65 [I31] s fun v101 s=>c n65 [I30] s fun v102 s=>h_op3_buildS n2 n1 [zn,zn] [(n0,n1,(.c v101)),(n1,n1,(.c v102))] c r s fun v103 s=>c n94 [v103] s fun v104 s=>h_op3_buildS n1 n1 [zn] [(n0,n1,(.c v104))] c r s fun v105 s=>c n66 [v100,v105] s fun v106 s=>h_op3_buildS n14 n1 [zn,zn,zn,zn,zn,zn,zn,zn,zn,zn,zn,zn,zn,zn] [(n0,n1,(.c v3)),(n1,n1,(.c v10)),(n2,n1,(.c v17)),(n3,n1,(.c v27)),(n4,n1,(.c v37)),(n5,n1,(.c v47)),(n6,n1,(.c v54)),(n7,n1,(.c v63)),(n8,n1,(.c v70)),(n9,n1,(.c v77)),(n10,n1,(.c v81)),(n11,n1,(.c v89)),(n12,n1,(.c v99)),(n13,n1,(.c v106))] c r s fun v107 s=>c n64 [(r q0),B1,v107] s fun v108 s=>K [] s))))),[],[q0],[q6,q7,q8,q9,q10,q11,q12,q13,q14,q15,q16,q17,q18,q19,q20,q21,q22,q23,q24,q25,q26,q27,q28,q29,q30,q31,q32,q33,q34,q35,q36,q37,q38,q39,q40,q41,q42,q43,q44,q45,q46,q47,q48,q49,q50,q51,q52,q53,q54,q55,q56,q57,q58,q59,q60,q61,q62,q63,q64,q65,q66,q67,q68,q69,q70,q71,q72,q73,q74,q75,q76,q77,q78,q79,q80,q81,q82,q83,q84,q85,q86,q87,q88,q89,q90,q91,q92,q93,q94,q95,q96,q97,q98,q99,q100,q101,q102,q103,q104,q105,q106,q107,q108,q109,q110,q111,q112,q113,q114,q115,q116,q117,q118,q119,q120,q121,q122,q123,q124,q125,q126,q127,q128,q129,q130,q131,q132,q133,q134,q135,q136,q137]⟩
noncomputable def cf92:HF:=⟨
(.seq (.reg [q4] fun c r s K=>K [(.sc zn)] s)
 (.seq (.reg [q5] fun c r s K=>c n107 [(r q0)] s fun v0 s=>K [v0] s)
 (.seq (.seq (.reg [q10,q11] fun c r s K=>lnS (r q5) fun v0=>K [v0,I0] s)
 (.block n0 (.loop (.seq (.reg [q12] fun c r s K=>binK .lss (r q11) (r q10) fun v0=>K [v0] s)
 (.seq (.cond (.t q12) .skip
 (.exit n0))
 (.seq (.block n1 (.seq (.reg [q6] fun c r s K=>K [(r q11)] s)
 (.reg [] fun c r s K=>ixs n2 (r q5) (r q6) fun v0=>fad n0 v0 fun v1=>ld s v1 fun v2=>c n108 [I3,v2,(r q1)] s fun v3 s=>ixs n2 (r q5) (r q6) fun v4=>fad n0 v4 fun v5=>sto s n1 v5 v3 fun s=>K [] s)))
 (.reg [q11] fun c r s K=>binK .add (r q11) I1 fun v0=>K [v0] s)))))))
 (.seq (.reg [q4] fun c r s K=>K [(r q5)] s)
 .ret)))),[(.tmp q4)],[q0,q1],[q7,q8,q9,q13,q14,q15,q16,q17,q18,q19,q20,q21,q22,q23,q24,q25,q26]⟩
noncomputable def cf107:HF:=⟨
(.seq (.reg [q2] fun c r s K=>K [(.sc zn)] s)
 (.seq (.seq (.reg [q4] fun c r s K=>h_op4_eqv .slice false (.c (r q0)) (.c (.sc zn)) c r s fun v0 s=>K [v0] s)
 (.cond (.t q4) (.seq (.reg [q2] fun c r s K=>K [(.sc zn)] s)
 .ret)
 .skip))
 (.seq (.reg [q2] fun c r s K=>h_op3_buildS n0 n2 [] [] c r s fun v0 s=>xA n2 n32 v0 (r q0) c r s fun v1 s=>K [v1] s)
 .ret))),[(.tmp q2)],[q0],[q3,q5,q6,q7]⟩
noncomputable def cf97:HF:=⟨
(.seq (.reg [q4] fun c r s K=>K [(.sc zn)] s)
 (.seq (.reg [q4] fun c r s K=>c n65 [(r q0)] s fun v0 s=>c n65 [(r q1)] s fun v1 s=>c n92 [v1,U16] s fun v2 s=>h_op3_buildS n2 n1 [zn,zn] [(n0,n1,(.c v0)),(n1,n1,(.c v2))] c r s fun v3 s=>c n91 [v3] s fun v4 s=>K [v4] s)
 .ret)),[(.tmp q4)],[q0,q1],[q5,q6,q7,q8,q9,q10,q11]⟩
noncomputable def cf96:HF:=⟨
(.seq (.reg [q2] fun c r s K=>K [(.sc zn)] s)
 (.seq (.reg [q2] fun c r s K=>cnv .i64 (r q0) fun v0=>binK .add I5 v0 fun v1=>binK .sub v1 I1 fun v2=>c n65 [v2] s fun v3 s=>K [v3] s)
 .ret)),[(.tmp q2)],[q0],[q3,q4,q5,q6,q7]⟩
noncomputable def cf69:HF:=⟨
(.seq (.reg [q2] fun c r s K=>K [(.sc zn)] s)
 (.seq (.seq (.reg [q4] fun c r s K=>K [I0] s)
 (.block n0 (.loop (.seq (.reg [q5] fun c r s K=>binK .lss (r q4) I16 fun v0=>K [v0] s)
 (.seq (.cond (.t q5) .skip
 (.exit n0))
 (.seq (.block n1 (.seq (.reg [q3] fun c r s K=>K [(r q4)] s)
 (.seq (.reg [] fun c r s K=>binK .add I5 (r q3) fun v0=>c n65 [v0] s fun v1 s=>binK .add I5 (r q3) fun v2=>c n65 [v2] s fun v3 s=>h_op3_buildS n2 n1 [zn,zn] [(n0,n1,(.c v1)),(n1,n1,(.c v3))] c r s fun v4 s=>c n94 [v4] s fun v5 s=>binK .add I5 (r q3) fun v6=>c n65 [v6] s fun v7 s=>h_op3_buildS n1 n1 [zn] [(n0,n1,(.c v7))] c r s fun v8 s=>c n66 [v5,v8] s fun v9 s=>h_op3_buildS n1 n1 [zn] [(n0,n1,(.c v9))] c r s fun v10 s=>c n64 [(r q0),B1,v10] s fun v11 s=>K [] s)
 (.drw [q2] fun c r s K=>(fun z m=>binK .add I5 (r q3) fun v0=>dw3 m n8 n6 s (fun s q=>c n65 [v0] s q) fun v1 m s=>xS true U1 (r q3) c r s fun v2 s=>dw3 m n64 n62 s (fun s q=>c n92 [v1,v2] s q) fun v3 m s=>dw1 m n128 (fun q=>h_op3_buildS n2 n1 [zn,zn] [(n0,n1,(.c (r q2))),(n1,n1,(.c v3))] c r s q) fun v4 m s=>dw3 m (nat_lit 256) (nat_lit 255) s (fun s q=>c n91 [v4] s q) fun v5 m s=>K [v5] s) s.next mk0))))
 (.reg [q4] fun c r s K=>binK .add (r q4) I1 fun v0=>K [v0] s)))))))
 (.reg [] fun c r s K=>c n65 [I21] s fun v0 s=>h_op3_buildS n1 n1 [zn] [(n0,n1,(.c (r q2)))] c r s fun v1 s=>c n66 [v0,v1] s fun v2 s=>c n65 [I23] s fun v3 s=>c n95 [I13] s fun v4 s=>h_op3_buildS n1 n1 [zn] [(n0,n1,(.c v4))] c r s fun v5 s=>c n66 [v3,v5] s fun v6 s=>c n65 [I24] s fun v7 s=>c n95 [I17] s fun v8 s=>h_op3_buildS n1 n1 [zn] [(n0,n1,(.c v8))] c r s fun v9 s=>c n66 [v7,v9] s fun v10 s=>h_op3_buildS n3 n1 [zn,zn,zn] [(n0,n1,(.c v2)),(n1,n1,(.c v6)),(n2,n1,(.c v10))] c r s fun v11 s=>c n64 [(r q0),B1,v11] s fun v12 s=>K [] s))),[],[q0],[q6,q7,q8,q9,q10,q11,q12,q13,q14,q15,q16,q17,q18,q19,q20,q21,q22,q23,q24,q25,q26,q27,q28,q29,q30,q31,q32,q33,q34,q35,q36,q37,q38,q39,q40,q41,q42,q43,q44,q45,q46,q47]⟩
noncomputable def cf95:HF:=⟨
(.seq (.reg [q2] fun c r s K=>K [(.sc zn)] s)
 (.seq (.reg [q3] fun c r s K=>K [(.sc zn)] s)
 (.seq (.seq (.reg [q5] fun c r s K=>K [I0] s)
 (.block n0 (.loop (.seq (.reg [q6] fun c r s K=>binK .lss (r q5) I4 fun v0=>K [v0] s)
 (.seq (.cond (.t q6) .skip
 (.exit n0))
 (.seq (.block n1 (.seq (.reg [q4] fun c r s K=>K [(r q5)] s)
 (.reg [q3] fun c r s K=>binK .add (r q0) (r q4) fun v0=>c n65 [v0] s fun v1 s=>binK .add I1 (r q4) fun v2=>c n65 [v2] s fun v3 s=>h_op3_buildS n2 n1 [zn,zn] [(n0,n1,(.c v1)),(n1,n1,(.c v3))] c r s fun v4 s=>c n94 [v4] s fun v5 s=>h_op3_buildS n2 n1 [zn,zn] [(n0,n1,(.c (r q3))),(n1,n1,(.c v5))] c r s fun v6 s=>c n91 [v6] s fun v7 s=>K [v7] s)))
 (.reg [q5] fun c r s K=>binK .add (r q5) I1 fun v0=>K [v0] s)))))))
 (.seq (.reg [q2] fun c r s K=>K [(r q3)] s)
 .ret)))),[(.tmp q2)],[q0],[q7,q8,q9,q10,q11,q12,q13,q14,q15,q16,q17,q18,q19,q20,q21]⟩
noncomputable def cf68:HF:=⟨
(.seq (.reg [q4] fun c r s K=>K [(.sc zn)] s)
 (.seq (.reg [q5] fun c r s K=>K [(.sc zn)] s)
 (.seq (.seq (.reg [q7,q8] fun c r s K=>K [(r q1),I0] s)
 (.block n0 (.loop (.seq (.reg [q9] fun c r s K=>binK .lss (r q8) (r q7) fun v0=>K [v0] s)
 (.seq (.cond (.t q9) .skip
 (.exit n0))
 (.seq (.block n1 (.seq (.reg [q6] fun c r s K=>K [(r q8)] s)
 (.reg [q5] fun c r s K=>binK .add (r q0) (r q6) fun v0=>c n65 [v0] s fun v1 s=>h_op3_buildS n2 n1 [zn,zn] [(n0,n1,(.c (r q5))),(n1,n1,(.c v1))] c r s fun v2 s=>c n91 [v2] s fun v3 s=>K [v3] s)))
 (.reg [q8] fun c r s K=>binK .add (r q8) I1 fun v0=>K [v0] s)))))))
 (.seq (.reg [q4] fun c r s K=>K [(r q5)] s)
 .ret)))),[(.tmp q4)],[q0,q1],[q10,q11,q12,q13,q14,q15,q16,q17,q18,q19]⟩
noncomputable def cf64:HF:=⟨
(.seq (.reg [q8,q9,q10] fun c r s K=>lnS (r q2) fun v0=>K [(r q2),v0,I0] s)
 (.block n0 (.loop (.seq (.reg [q11] fun c r s K=>binK .lss (r q10) (r q9) fun v0=>K [v0] s)
 (.seq (.cond (.t q11) .skip
 (.exit n0))
 (.seq (.block n1 (.seq (.reg [q7] fun c r s K=>ixs n1 (r q8) (r q10) fun v0=>ld s v0 fun v1=>K [v1] s)
 (.reg [] fun c r s K=>xC (r q0) c r s fun v0 s=>ld s v0 fun v1=>h_op3_build [zb,zn] [(n0,n1,(.c (r q1))),(n1,n1,(.c (r q7)))] c r s fun v2 s=>h_op3_buildS n1 n2 [zb,zn] [(n0,n2,(.c v2))] c r s fun v3 s=>xA n2 n32 v1 v3 c r s fun v4 s=>xC (r q0) c r s fun v5 s=>sto s n1 v5 v4 fun s=>K [] s)))
 (.reg [q10] fun c r s K=>binK .add (r q10) I1 fun v0=>K [v0] s))))))),[],[q0,q1,q2],[q12,q13,q14,q15,q16,q17,q18,q19,q20,q21,q22,q23,q24]⟩
noncomputable def cf66:HF:=⟨
(.seq (.reg [q4] fun c r s K=>K [(.sc zn)] s)
 (.seq (.reg [q4] fun c r s K=>c n91 [(r q1)] s fun v0 s=>c n93 [I3,U1] s fun v1 s=>c n92 [v0,v1] s fun v2 s=>h_op3_buildS n2 n1 [zn,zn] [(n0,n1,(.c (r q0))),(n1,n1,(.c v2))] c r s fun v3 s=>c n91 [v3] s fun v4 s=>K [v4] s)
 .ret)),[(.tmp q4)],[q0,q1],[q5,q6,q7,q8,q9,q10,q11]⟩
noncomputable def cf93:HF:=⟨
(.seq (.reg [q4] fun c r s K=>K [U0] s)
 (.seq (.reg [q5] fun c r s K=>c n55 [(r q0)] s fun v0 s=>K [v0] s)
 (.seq (.seq (.reg [q15] fun c r s K=>binK .eql (r q5) U0 fun v0=>mf v0 (r q1) s fun v1 s=>mf v0 (r q5) s fun v2 s=>jf v0 (binK .rem v1 v2) s fun v3 s=>jf v0 (binK .eql v3 U0) s fun v4 s=>pck v0 tt v4 fun v5=>K [v5] s)
 (.cond (.t q15) (.seq (.reg [q4] fun c r s K=>K [U0] s)
 .ret)
 .skip))
 (.seq (.reg [q4] fun c r s K=>binK .rem (r q1) (r q5) fun v0=>binK .sub (r q5) v0 fun v1=>K [v1] s)
 .ret)))),[(.tmp q4)],[q0,q1],[q6,q7,q8,q9,q10,q11,q12,q13,q14,q16,q17,q18,q19,q20]⟩
noncomputable def cf67:HF:=⟨
(.seq (.reg [q2] fun c r s K=>K [(.sc zn)] s)
 (.seq (.reg [q2] fun c r s K=>h_op3_build [zb,zi] [(n0,n1,(.c B4)),(n1,n1,(.c (r q0)))] c r s fun v0 s=>h_op3_buildS n1 n2 [zb,zi] [(n0,n2,(.c v0))] c r s fun v1 s=>h_op3_build [zu,zn] [(n0,n1,(.c U1)),(n1,n1,(.c v1))] c r s fun v2 s=>h_op3_buildS n1 n2 [zu,zn] [(n0,n2,(.c v2))] c r s fun v3 s=>K [v3] s)
 .ret)),[(.tmp q2)],[q0],[q3,q4,q5,q6,q7]⟩
noncomputable def cf65:HF:=⟨
(.seq (.reg [q2] fun c r s K=>K [(.sc zn)] s)
 (.seq (.reg [q2] fun c r s K=>c n51 [(r q0)] s fun v0 s=>h_op3_buildS n1 n2 [zb,zi] [(n0,n2,(.c v0))] c r s fun v1 s=>h_op3_build [zu,zn] [(n0,n1,(.c U1)),(n1,n1,(.c v1))] c r s fun v2 s=>h_op3_buildS n1 n2 [zu,zn] [(n0,n2,(.c v2))] c r s fun v3 s=>K [v3] s)
 .ret)),[(.tmp q2)],[q0],[q3,q4,q5,q6,q7]⟩
noncomputable def cf11:HF:=⟨
(.seq (.reg [q4] fun c r s K=>K [I0] s)
 (.seq (.block n0 (.seq (.reg [q5] fun c r s K=>c n26 [(r q0)] s fun v0 s=>binK .neq v0 I0 fun v1=>mf v1 (r q1) s fun v2 s=>jf v1 (binK .lss v2 I4) s fun v3 s=>pck v1 tt v3 fun v4=>mf v4 (r q1) s fun v5 s=>jf v4 (binK .gtr v5 I13) s fun v6 s=>pck v4 tt v6 fun v7=>K [v7] s)
 (.cond (.t q5) (.seq (.reg [q4] fun c r s K=>K [I1] s)
 .ret)
 (.seq (.reg [q17] fun c r s K=>xS true I1 (r q1) c r s fun v0 s=>lnS (r q0) fun v1=>binK .leq v0 v1 fun v2=>K [v2] s)
 (.cond (.t q17) (.seq (.reg [q4] fun c r s K=>K [I3] s)
 .ret)
 .skip)))))
 (.seq (.reg [q4] fun c r s K=>K [I0] s)
 .ret))),[(.tmp q4)],[q0,q1],[q6,q7,q8,q9,q10,q11,q12,q13,q14,q15,q16,q18,q19,q20,q21,q22]⟩
noncomputable def cf26:HF:=⟨
(.seq (.reg [q2] fun c r s K=>K [I0] s)
 (.seq (.seq (.reg [q7] fun c r s K=>lnS (r q0) fun v0=>binK .gtr v0 I32 fun v1=>K [v1] s)
 (.cond (.t q7) (.seq (.reg [q2] fun c r s K=>K [I3] s)
 .ret)
 .skip))
 (.seq (.seq (.reg [q8,q9,q10] fun c r s K=>lnS (r q0) fun v0=>K [(r q0),v0,I0] s)
 (.block n0 (.loop (.seq (.reg [q11] fun c r s K=>binK .lss (r q10) (r q9) fun v0=>K [v0] s)
 (.seq (.cond (.t q11) .skip
 (.exit n0))
 (.seq (.block n1 (.seq (.reg [q4] fun c r s K=>ixs n4 (r q8) (r q10) fun v0=>lN s n4 v0 fun v1=>alc s [zb,zb,zb,zb] fun v2 s=>sto s n4 v2 v1 fun s=>K [v2] s)
 (.block n2 (.seq (.reg [q14] fun c r s K=>lN s n4 (r q4) fun v0=>c n52 [v0] s fun v1 s=>nott v1 fun v2=>K [v2] s)
 (.cond (.t q14) (.seq (.reg [q2] fun c r s K=>K [I1] s)
 .ret)
 (.seq (.reg [q18] fun c r s K=>lN s n4 (r q4) fun v0=>lnS (r q0) fun v1=>c n53 [v0,v1] s fun v2 s=>nott v2 fun v3=>K [v3] s)
 (.cond (.t q18) (.seq (.reg [q2] fun c r s K=>K [I2] s)
 .ret)
 .skip)))))))
 (.reg [q10] fun c r s K=>binK .add (r q10) I1 fun v0=>K [v0] s)))))))
 (.seq (.reg [q2] fun c r s K=>K [I0] s)
 .ret)))),[(.tmp q2)],[q0],[q5,q6,q12,q13,q15,q16,q17,q19,q20,q21,q22,q23,q24]⟩
noncomputable def cf53:HF:=⟨
(.seq (.reg [q2,q4] fun c r s K=>bxx s (r q0) fun v0 s=>K [v0,ff] s)
 (.seq (.reg [q4] fun c r s K=>fad n0 (r q2) fun v0=>ld s v0 fun v1=>binK .neq v1 B8 fun v2=>jf v2 (fad n3 (r q2)) s fun v3 s=>jf v2 (ld s v3) s fun v4 s=>jf v2 (cnv .i64 v4) s fun v5 s=>mf v2 (r q1) s fun v6 s=>jf v2 (binK .leq v5 v6) s fun v7 s=>pck v2 tt v7 fun v8=>K [v8] s)
 .ret)),[(.tmp q4)],[q0,q1],[q5,q6,q7,q8,q9,q10,q11,q12,q13,q14]⟩
noncomputable def cf52:HF:=⟨
(.seq (.reg [q1,q2] fun c r s K=>bxx s (r q0) fun v0 s=>K [v0,ff] s)
 (.seq (.seq (.reg [q17] fun c r s K=>fad n0 (r q1) fun v0=>ld s v0 fun v1=>cnv .i64 v1 fun v2=>binK .geq v2 I9 fun v3=>jf v3 (fad n1 (r q1)) s fun v4 s=>jf v3 (ld s v4) s fun v5 s=>jf v3 (binK .gtr v5 B3) s fun v6 s=>pck v3 tt v6 fun v7=>jf v7 (fad n2 (r q1)) s fun v8 s=>jf v7 (ld s v8) s fun v9 s=>jf v7 (binK .gtr v9 B3) s fun v10 s=>pck v7 tt v10 fun v11=>K [v11] s)
 (.cond (.t q17) (.seq (.reg [q2] fun c r s K=>K [ff] s)
 .ret)
 .skip))
 (.seq (.reg [q3] fun c r s K=>fad n0 (r q1) fun v0=>ld s v0 fun v1=>ixA n9 n1 (.sc (.ptr n0 n0)) v1 fun v2=>ld s v2 fun v3=>K [v3] s)
 (.seq (.reg [q2] fun c r s K=>binK .and (r q3) B1 fun v0=>binK .neq v0 B0 fun v1=>jf v1 (fad n1 (r q1)) s fun v2 s=>jf v1 (ld s v2) s fun v3 s=>jf v1 (binK .eql v3 B0) s fun v4 s=>pck v1 tt v4 fun v5=>mt v5 (r q3) s fun v6 s=>jt v5 (binK .and v6 B2) s fun v7 s=>jt v5 (binK .neq v7 B0) s fun v8 s=>mt v5 v8 s fun v9 s=>jf v9 (fad n2 (r q1)) s fun v10 s=>jf v9 (ld s v10) s fun v11 s=>jf v9 (binK .eql v11 B0) s fun v12 s=>jt v5 (pck v9 tt v12) s fun v13 s=>pck v5 v13 ff fun v14=>mt v14 (r q3) s fun v15 s=>jt v14 (binK .and v15 B4) s fun v16 s=>jt v14 (binK .neq v16 B0) s fun v17 s=>mt v14 v17 s fun v18 s=>jf v18 (fad n3 (r q1)) s fun v19 s=>jf v18 (ld s v19) s fun v20 s=>jf v18 (binK .eql v20 B0) s fun v21 s=>jt v14 (pck v18 tt v21) s fun v22 s=>pck v14 v22 ff fun v23=>K [v23] s)
 .ret)))),[(.tmp q2)],[q0],[q4,q5,q6,q7,q8,q9,q10,q11,q12,q13,q14,q15,q16,q18,q19,q20,q21,q22,q23,q24,q25,q26,q27,q28,q29,q30,q31,q32,q33,q34,q35,q36,q37,q38,q39,q40,q41,q42,q43,q44,q45,q46,q47,q48,q49]⟩
noncomputable def cf24:HF:=⟨
(.seq (.reg [q0] fun c r s K=>K [(.sc zn)] s)
 (.seq (.reg [q0] fun c r s K=>h_op3_build [zb,zb,zb,zb] [(n0,n1,(.c B1)),(n3,n1,(.c B5))] c r s fun v0 s=>h_op3_build [zb,zb,zb,zb] [(n0,n1,(.c B3)),(n2,n1,(.c B1))] c r s fun v1 s=>h_op3_buildS n2 n4 [zb,zb,zb,zb,zb,zb,zb,zb] [(n0,n4,(.c v0)),(n4,n4,(.c v1))] c r s fun v2 s=>K [v2] s)
 .ret)),[(.tmp q0)],[],[q1,q2,q3]⟩
noncomputable def cf9:HF:=⟨
(.seq (.reg [q4] fun c r s K=>K [ff] s)
 (.seq (.seq (.reg [q10] fun c r s K=>lnS (r q0) fun v0=>lnS (r q1) fun v1=>binK .neq v0 v1 fun v2=>K [v2] s)
 (.cond (.t q10) (.seq (.reg [q4] fun c r s K=>K [ff] s)
 .ret)
 .skip))
 (.seq (.seq (.reg [q5] fun c r s K=>K [I0] s)
 (.block n0 (.loop (.seq (.seq (.reg [q14] fun c r s K=>lnS (r q0) fun v0=>binK .lss (r q5) v0 fun v1=>K [v1] s)
 (.cond (.t q14) .skip
 (.exit n0)))
 (.seq (.block n1 (.seq (.drw [q25] fun c r s K=>(fun z m=>ixs n1 (r q0) (r q5) fun v0=>dL z m n8 n7 s v0 fun v1 m s=>ixs n1 (r q1) (r q5) fun v2=>dL z m n128 n112 s v2 fun v3 m s=>binK .neq v1 v3 fun v4=>K [v4] s) s.next mk0)
 (.cond (.t q25) (.seq (.reg [q4] fun c r s K=>K [ff] s)
 .ret)
 .skip)))
 (.reg [q5] fun c r s K=>binK .add (r q5) I1 fun v0=>K [v0] s))))))
 (.seq (.reg [q4] fun c r s K=>K [tt] s)
 .ret)))),[(.tmp q4)],[q0,q1],[q6,q7,q8,q9,q11,q12,q13,q17,q18,q19,q20,q21,q22,q23,q24,q15,q16]⟩
noncomputable def cf8:HF:=⟨
(.seq (.reg [q4] fun c r s K=>K [ff] s)
 (.seq (.seq (.reg [q10] fun c r s K=>lnS (r q0) fun v0=>lnS (r q1) fun v1=>binK .neq v0 v1 fun v2=>K [v2] s)
 (.cond (.t q10) (.seq (.reg [q4] fun c r s K=>K [ff] s)
 .ret)
 .skip))
 (.seq (.seq (.reg [q5] fun c r s K=>K [I0] s)
 (.block n0 (.loop (.seq (.seq (.reg [q14] fun c r s K=>lnS (r q0) fun v0=>binK .lss (r q5) v0 fun v1=>K [v1] s)
 (.cond (.t q14) .skip
 (.exit n0)))
 (.seq (.block n1 (.seq (.drw [q26] fun c r s K=>(fun z m=>ixs n1 (r q0) (r q5) fun v0=>dL z m n8 n7 s v0 fun v1 m s=>ixs n1 (r q1) (r q5) fun v2=>dL z m n128 n112 s v2 fun v3 m s=>dw3 m (nat_lit 256) (nat_lit 255) s (fun s q=>c n9 [v1,v3] s q) fun v4 m s=>nott v4 fun v5=>K [v5] s) s.next mk0)
 (.cond (.t q26) (.seq (.reg [q4] fun c r s K=>K [ff] s)
 .ret)
 .skip)))
 (.reg [q5] fun c r s K=>binK .add (r q5) I1 fun v0=>K [v0] s))))))
 (.seq (.reg [q4] fun c r s K=>K [tt] s)
 .ret)))),[(.tmp q4)],[q0,q1],[q6,q7,q8,q9,q11,q12,q13,q17,q18,q19,q20,q21,q22,q23,q24,q25,q15,q16]⟩
noncomputable def cf7:HF:=⟨
(.seq (.reg [q4,q6,q7] fun c r s K=>bxx s (r q1) fun v0 s=>alc s [zn,zn] fun v1 s=>K [v0,v1,I0] s)
 (.seq (.reg [q8] fun c r s K=>c n18 [(r q0),(r q2)] s fun v0 s=>K [v0] s)
 (.seq (.seq (.reg [q29] fun c r s K=>binK .neq (r q8) I0 fun v0=>K [v0] s)
 (.cond (.t q29) (.seq (.reg [q7] fun c r s K=>h_op3_build [zn,zn] [] c r s fun v0 s=>sto s n2 (r q6) v0 fun s=>K [(r q8)] s)
 .ret)
 .skip))
 (.seq (.reg [q9] fun c r s K=>xS true I1 (r q2) c r s fun v0 s=>K [v0] s)
 (.seq (.reg [q10] fun c r s K=>lN s n4 (r q4) fun v0=>c n20 [v0] s fun v1 s=>c n19 [(r q0),v1,(r q9)] s fun v2 s=>xE n0 v2 c r s fun v3 s=>xE n1 v2 c r s fun v4 s=>K [v3] s)
 (.seq (.seq (.reg [q49] fun c r s K=>binK .sub (r q9) I1 fun v0=>ixs n21 (r q10) v0 fun v1=>lN s n21 v1 fun v2=>c n21 [(r q0),v2] s fun v3 s=>nott v3 fun v4=>K [v4] s)
 (.cond (.t q49) (.seq (.reg [q7] fun c r s K=>h_op3_build [zn,zn] [] c r s fun v0 s=>sto s n2 (r q6) v0 fun s=>K [I8] s)
 .ret)
 .skip))
 (.seq (.reg [q12] fun c r s K=>K [(.sc zn)] s)
 (.seq (.seq (.reg [q13] fun c r s K=>K [I0] s)
 (.block n0 (.loop (.seq (.seq (.reg [q53] fun c r s K=>binK .lss (r q13) (r q9) fun v0=>K [v0] s)
 (.cond (.t q53) .skip
 (.exit n0)))
 (.seq (.block n1 (.reg [q12] fun c r s K=>ixs n21 (r q10) (r q13) fun v0=>lN s n21 v0 fun v1=>c n22 [(r q0),v1] s fun v2 s=>h_op3_buildS n1 n50 [zu,zu,zu,zu,zu,zu,zu,zu,zu,zu,zu,zu,zu,zu,zu,zu,zu,zu,zu,zu,zu,zu,zu,zu,zu,zu,zu,zu,zu,zu,zu,zu,zu,zu,zu,zu,zu,zu,zu,zu,zu,zu,zu,zu,zu,zu,zu,zu,zu,zu] [(n0,n50,(.c v2))] c r s fun v3 s=>xA n50 (nat_lit 400) (r q12) v3 c r s fun v4 s=>K [v4] s))
 (.reg [q13] fun c r s K=>binK .add (r q13) I1 fun v0=>K [v0] s))))))
 (.seq (.reg [q14] fun c r s K=>c n23 [(r q12)] s fun v0 s=>K [v0] s)
 (.seq (.seq (.reg [q15] fun c r s K=>K [I0] s)
 (.block n2 (.loop (.seq (.seq (.reg [q69] fun c r s K=>binK .lss (r q15) (r q9) fun v0=>K [v0] s)
 (.cond (.t q69) .skip
 (.exit n2)))
 (.seq (.block n3 (.seq (.reg [q16] fun c r s K=>ixs n1 (r q14) (r q15) fun v0=>ld s v0 fun v1=>ixs n50 (r q12) v1 fun v2=>lN s n50 v2 fun v3=>alc s [zu,zu,zu,zu,zu,zu,zu,zu,zu,zu,zu,zu,zu,zu,zu,zu,zu,zu,zu,zu,zu,zu,zu,zu,zu,zu,zu,zu,zu,zu,zu,zu,zu,zu,zu,zu,zu,zu,zu,zu,zu,zu,zu,zu,zu,zu,zu,zu,zu,zu] fun v4 s=>sto s n50 v4 v3 fun s=>K [v4] s)
 (.seq (.drw [] fun c r s K=>(fun z m=>ixA n50 n1 (r q16) I32 fun v0=>dL z m (nat_lit 512) (nat_lit 256) s v0 fun v1 m s=>ixs n1 (r q14) (r q15) fun v2=>dL z m (nat_lit 8192) (nat_lit 7168) s v2 fun v3 m s=>cnv .u64 v3 fun v4=>ixA n50 n1 (r q16) I34 fun v5=>dL z m (nat_lit 65536) (nat_lit 32768) s v5 fun v6 m s=>ixA n50 n1 (r q16) I11 fun v7=>dL z m (nat_lit 262144) (nat_lit 131072) s v7 fun v8 m s=>ixs n50 (r q12) (r q15) fun v9=>ixA n50 n1 v9 I35 fun v10=>dS z m (nat_lit 2097152) (nat_lit 1588995) s n1 v10 v1 fun _ m s=>ixs n50 (r q12) (r q15) fun v12=>ixA n50 n1 v12 I36 fun v13=>dS z m (nat_lit 16777216) (nat_lit 16285455) s n1 v13 v4 fun _ m s=>ixs n50 (r q12) (r q15) fun v15=>ixA n50 n1 v15 I37 fun v16=>dS z m (nat_lit 134217728) (nat_lit 133824319) s n1 v16 v6 fun _ m s=>ixs n50 (r q12) (r q15) fun v18=>ixA n50 n1 v18 I38 fun v19=>dS z m (nat_lit 1073741824) (nat_lit 1073741823) s n1 v19 v8 fun _ m s=>K [] s) s.next mk0)
 (.seq (.reg [q111] fun c r s K=>ixs n50 (r q12) (r q15) fun v0=>ixA n50 n1 v0 I38 fun v1=>ld s v1 fun v2=>binK .eql v2 U0 fun v3=>K [v3] s)
 (.cond (.t q111) (.drw [] fun c r s K=>(fun z m=>ixs n50 (r q12) (r q15) fun v0=>ixA n50 n1 v0 I37 fun v1=>dL z m n64 n60 s v1 fun v2 m s=>ixs n50 (r q12) (r q15) fun v3=>ixA n50 n1 v3 (i6 n41) fun v4=>dS z m (nat_lit 512) (nat_lit 511) s n1 v4 v2 fun _ m s=>K [] s) s.next mk0)
 .skip)))))
 (.reg [q15] fun c r s K=>binK .add (r q15) I1 fun v0=>K [v0] s))))))
 (.seq (.seq (.reg [q17] fun c r s K=>K [I0] s)
 (.block n4 (.loop (.seq (.seq (.reg [q124] fun c r s K=>binK .add (r q17) I1 fun v0=>binK .lss v0 (r q9) fun v1=>K [v1] s)
 (.cond (.t q124) .skip
 (.exit n4)))
 (.seq (.block n5 (.seq (.drw [q138] fun c r s K=>(fun z m=>binK .add (r q17) I1 fun v0=>ixs n50 (r q12) v0 fun v1=>ixA n50 n1 v1 I35 fun v2=>dL z m n32 n31 s v2 fun v3 m s=>ixs n50 (r q12) (r q17) fun v4=>ixA n50 n1 v4 I35 fun v5=>dL z m (nat_lit 1024) (nat_lit 960) s v5 fun v6 m s=>binK .eql v3 v6 fun v7=>K [v7] s) s.next mk0)
 (.cond (.t q138) (.drw [] fun c r s K=>(fun z m=>binK .add (r q17) I1 fun v0=>ixs n50 (r q12) v0 fun v1=>ixA n50 n1 v1 I36 fun v2=>dL z m (nat_lit 512) (nat_lit 496) s v2 fun v3 m s=>ixs n50 (r q12) (r q17) fun v4=>ixA n50 n1 v4 I36 fun v5=>dL z m (nat_lit 16384) (nat_lit 15360) s v5 fun v6 m s=>binK .sub v3 v6 fun v7=>binK .sub v7 U1 fun v8=>ixs n50 (r q12) (r q17) fun v9=>ixA n50 n1 v9 I39 fun v10=>dS z m (nat_lit 524288) (nat_lit 425971) s n1 v10 U1 fun _ m s=>ixs n50 (r q12) (r q17) fun v12=>ixA n50 n1 v12 (i6 n40) fun v13=>dS z m (nat_lit 4194304) (nat_lit 4194303) s n1 v13 v8 fun _ m s=>K [] s) s.next mk0)
 (.drw [] fun c r s K=>(fun z m=>binK .add (r q17) I1 fun v0=>ixs n50 (r q12) v0 fun v1=>ixA n50 n1 v1 I35 fun v2=>dL z m n128 n124 s v2 fun v3 m s=>ixs n50 (r q12) (r q17) fun v4=>ixA n50 n1 v4 I35 fun v5=>dL z m (nat_lit 4096) (nat_lit 3840) s v5 fun v6 m s=>binK .sub v3 v6 fun v7=>binK .sub v7 U1 fun v8=>ixs n50 (r q12) (r q17) fun v9=>ixA n50 n1 v9 (i6 n40) fun v10=>dS z m (nat_lit 131072) (nat_lit 131071) s n1 v10 v8 fun _ m s=>K [] s) s.next mk0))))
 (.reg [q17] fun c r s K=>binK .add (r q17) I1 fun v0=>K [v0] s))))))
 (.seq (.reg [q18] fun c r s K=>h_op3_build [zi,zi,zi,zi,zi,zi,zi,zi] [(n0,n1,(.c I0)),(n1,n1,(.c I26)),(n2,n1,(.c I27)),(n3,n1,(.c I28)),(n4,n1,(.c I29)),(n5,n1,(.c I32)),(n6,n1,(.c I33)),(n7,n1,(.c (i6 n40)))] c r s fun v0 s=>alc s [zi,zi,zi,zi,zi,zi,zi,zi] fun v1 s=>sto s n8 v1 v0 fun s=>K [v1] s)
 (.seq (.seq (.reg [q19] fun c r s K=>K [I0] s)
 (.block n6 (.loop (.seq (.seq (.reg [q180] fun c r s K=>binK .lss (r q19) (r q9) fun v0=>K [v0] s)
 (.cond (.t q180) .skip
 (.exit n6)))
 (.seq (.block n7 (.seq (.reg [q20] fun c r s K=>K [I0] s)
 (.block n8 (.loop (.seq (.seq (.reg [q184] fun c r s K=>binK .lss (r q20) I8 fun v0=>K [v0] s)
 (.cond (.t q184) .skip
 (.exit n8)))
 (.seq (.block n9 (.drw [] fun c r s K=>(fun z m=>ixA n8 n1 (r q18) (r q20) fun v0=>dL z m n32 n24 s v0 fun v1 m s=>ixs n50 (r q12) (r q19) fun v2=>ixA n50 n1 v2 v1 fun v3=>dL z m (nat_lit 256) (nat_lit 254) s v3 fun v4 m s=>binK .add (i6 n42) (r q20) fun v5=>ixs n50 (r q12) v4 fun v6=>ixA n50 n1 v6 v5 fun v7=>dL z m (nat_lit 8192) (nat_lit 8191) s v7 fun v8 m s=>binK .add v8 U1 fun v9=>ixs n50 (r q12) v4 fun v10=>ixA n50 n1 v10 v5 fun v11=>dS z m (nat_lit 131072) (nat_lit 131071) s n1 v11 v9 fun _ m s=>K [] s) s.next mk0))
 (.reg [q20] fun c r s K=>binK .add (r q20) I1 fun v0=>K [v0] s)))))))
 (.reg [q19] fun c r s K=>binK .add (r q19) I1 fun v0=>K [v0] s))))))
 (.seq (.reg [q21] fun c r s K=>xM n1 n24 [zn] (i6 n50) (i6 n50) c r s fun v0 s=>h_op3_build [zn,zn] [(n1,n1,(.c v0))] c r s fun v1 s=>alc s [zn,zn] fun v2 s=>sto s n2 v2 v1 fun s=>K [v2] s)
 (.seq (.seq (.reg [q22] fun c r s K=>K [I0] s)
 (.block n10 (.loop (.seq (.seq (.reg [q207] fun c r s K=>binK .lss (r q22) (i6 n50) fun v0=>K [v0] s)
 (.cond (.t q207) .skip
 (.exit n10)))
 (.seq (.block n11 (.seq (.reg [q23] fun c r s K=>K [I0] s)
 (.block n12 (.loop (.seq (.seq (.reg [q212] fun c r s K=>binK .lss (r q23) (r q9) fun v0=>K [v0] s)
 (.cond (.t q212) .skip
 (.exit n12)))
 (.seq (.block n13 (.drw [] fun c r s K=>(fun z m=>fad n1 (r q21) fun v0=>dL z m n2 n1 s v0 fun v1 m s=>fad n1 (r q21) fun v2=>dL z m n16 n8 s v2 fun v3 m s=>ixs n1 v3 (r q22) fun v4=>dL z m n128 n120 s v4 fun v5 m s=>ixs n50 (r q12) (r q23) fun v6=>ixA n50 n1 v6 (r q22) fun v7=>dL z m (nat_lit 8192) (nat_lit 7936) s v7 fun v8 m s=>dw1 m (nat_lit 16384) (fun q=>h_op3_buildS n1 n1 [zu] [(n0,n1,(.c v8))] c r s q) fun v9 m s=>dw5 z m (nat_lit 32768) (nat_lit 32760) s (.more (.more (.append n1 n8 (.c v5) (.c v9)))) r (fun s q=>xA n1 n8 v5 v9 c r s q) fun v10 m s=>ixs n1 v1 (r q22) fun v11=>dS z m (nat_lit 131072) (nat_lit 131071) s n1 v11 v10 fun _ m s=>K [] s) s.next mk0))
 (.reg [q23] fun c r s K=>binK .add (r q23) I1 fun v0=>K [v0] s)))))))
 (.reg [q22] fun c r s K=>binK .add (r q22) I1 fun v0=>K [v0] s))))))
 (.seq (.seq (.reg [q24] fun c r s K=>K [I0] s)
 (.block n14 (.loop (.seq (.seq (.reg [q233] fun c r s K=>binK .lss (r q24) I8 fun v0=>K [v0] s)
 (.cond (.t q233) .skip
 (.exit n14)))
 (.seq (.block n15 (.drw [] fun c r s K=>(fun z m=>fad n0 (r q21) fun v0=>dL z m n2 n1 s v0 fun v1 m s=>binK .quo (r q24) I4 fun v2=>binK .sub (r q9) I1 fun v3=>binK .mul v2 v3 fun v4=>binK .rem (r q24) I4 fun v5=>binK .add I1 v5 fun v6=>ixs n50 (r q12) v4 fun v7=>ixA n50 n1 v7 v6 fun v8=>dL z m (nat_lit 8192) (nat_lit 8188) s v8 fun v9 m s=>dw1 m (nat_lit 16384) (fun q=>h_op3_buildS n1 n1 [zu] [(n0,n1,(.c v9))] c r s q) fun v10 m s=>dw5 z m (nat_lit 32768) (nat_lit 32767) s (.more (.more (.append n1 n8 (.c v1) (.c v10)))) r (fun s q=>xA n1 n8 v1 v10 c r s q) fun v11 m s=>fad n0 (r q21) fun v12=>dS z m (nat_lit 131072) (nat_lit 131071) s n1 v12 v11 fun _ m s=>K [] s) s.next mk0))
 (.reg [q24] fun c r s K=>binK .add (r q24) I1 fun v0=>K [v0] s))))))
 (.seq (.reg [q7] fun c r s K=>lN s n2 (r q21) fun v0=>sto s n2 (r q6) v0 fun s=>K [I0] s)
 .ret))))))))))))))))),[(.cellN n2 q6),(.tmp q7)],[q0,q1,q2],[q25,q26,q27,q28,q30,q31,q32,q33,q35,q36,q37,q38,q39,q34,q40,q41,q11,q42,q43,q44,q45,q46,q47,q48,q50,q51,q52,q56,q57,q58,q59,q60,q61,q62,q63,q64,q54,q55,q65,q66,q67,q68,q72,q73,q74,q75,q76,q77,q78,q79,q80,q81,q82,q83,q84,q85,q86,q87,q88,q89,q90,q91,q92,q93,q94,q95,q96,q97,q98,q99,q100,q101,q102,q103,q104,q105,q106,q107,q108,q109,q110,q112,q113,q114,q115,q116,q117,q118,q119,q120,q70,q71,q121,q122,q123,q127,q128,q129,q130,q131,q132,q133,q134,q135,q136,q137,q139,q140,q141,q142,q143,q144,q145,q146,q147,q148,q149,q150,q151,q152,q153,q154,q155,q156,q157,q158,q159,q160,q161,q162,q163,q164,q165,q166,q167,q168,q169,q170,q171,q172,q173,q174,q175,q176,q125,q126,q177,q178,q179,q183,q187,q188,q189,q190,q191,q192,q193,q194,q195,q196,q197,q198,q199,q200,q201,q202,q203,q185,q186,q181,q182,q204,q205,q206,q210,q211,q215,q216,q217,q218,q219,q220,q221,q222,q223,q224,q225,q226,q227,q228,q229,q230,q231,q213,q214,q208,q209,q232,q236,q237,q238,q239,q240,q241,q242,q243,q244,q245,q246,q247,q248,q249,q250,q251,q252,q234,q235,q253]⟩
noncomputable def cf23:HF:=⟨
(.seq (.reg [q2] fun c r s K=>K [(.sc zn)] s)
 (.seq (.reg [q3] fun c r s K=>K [(.sc zn)] s)
 (.seq (.seq (.reg [q4] fun c r s K=>K [U0] s)
 (.block n0 (.loop (.seq (.seq (.reg [q7] fun c r s K=>binK .lss (r q4) U16 fun v0=>K [v0] s)
 (.cond (.t q7) .skip
 (.exit n0)))
 (.seq (.block n1 (.seq (.reg [q5] fun c r s K=>K [I0] s)
 (.block n2 (.loop (.seq (.seq (.reg [q13] fun c r s K=>lnS (r q0) fun v0=>binK .lss (r q5) v0 fun v1=>K [v1] s)
 (.cond (.t q13) .skip
 (.exit n2)))
 (.seq (.block n3 (.seq (.reg [q22] fun c r s K=>ixs n50 (r q0) (r q5) fun v0=>ixA n50 n1 v0 I32 fun v1=>ld s v1 fun v2=>binK .eql v2 (r q4) fun v3=>K [v3] s)
 (.cond (.t q22) (.reg [q3] fun c r s K=>h_op3_buildS n1 n1 [zi] [(n0,n1,(.c (r q5)))] c r s fun v0 s=>xA n1 n8 (r q3) v0 c r s fun v1 s=>K [v1] s)
 .skip)))
 (.reg [q5] fun c r s K=>binK .add (r q5) I1 fun v0=>K [v0] s)))))))
 (.reg [q4] fun c r s K=>binK .add (r q4) U1 fun v0=>K [v0] s))))))
 (.seq (.reg [q2] fun c r s K=>K [(r q3)] s)
 .ret)))),[(.tmp q2)],[q0],[q6,q10,q11,q12,q16,q17,q18,q19,q20,q21,q23,q24,q25,q26,q14,q15,q8,q9,q27]⟩
noncomputable def cf22:HF:=⟨
(.seq (.reg [q3,q4] fun c r s K=>bxx s (r q1) fun v0 s=>alc s [zu,zu,zu,zu,zu,zu,zu,zu,zu,zu,zu,zu,zu,zu,zu,zu,zu,zu,zu,zu,zu,zu,zu,zu,zu,zu,zu,zu,zu,zu,zu,zu,zu,zu,zu,zu,zu,zu,zu,zu,zu,zu,zu,zu,zu,zu,zu,zu,zu,zu] fun v1 s=>K [v0,v1] s)
 (.seq (.reg [q5] fun c r s K=>alc s [zu,zu,zu,zu,zu,zu,zu,zu,zu,zu,zu,zu,zu,zu,zu,zu,zu,zu,zu,zu,zu,zu,zu,zu,zu,zu,zu,zu,zu,zu,zu,zu,zu,zu,zu,zu,zu,zu,zu,zu,zu,zu,zu,zu,zu,zu,zu,zu,zu,zu] fun v0 s=>K [v0] s)
 (.seq (.reg [q6] fun c r s K=>fad n0 (r q3) fun v0=>ld s v0 fun v1=>c n44 [(r q0),v1] s fun v2 s=>alc s [zb,zb,zb,zb] fun v3 s=>sto s n4 v3 v2 fun s=>K [v3] s)
 (.seq (.drw [q7,q8] fun c r s K=>(fun z m=>fad n1 (r q6) fun v0=>dL z m n2 n1 s v0 fun v1 m s=>fad n1 (r q3) fun v2=>ixA n4 n1 v2 v1 fun v3=>dL z m n16 n15 s v3 fun v4 m s=>cnv .i64 v4 fun v5=>fad n2 (r q6) fun v6=>dL z m n128 n64 s v6 fun v7 m s=>fad n1 (r q3) fun v8=>ixA n4 n1 v8 v7 fun v9=>dL z m (nat_lit 1024) (nat_lit 960) s v9 fun v10 m s=>cnv .i64 v10 fun v11=>K [v5,v11] s) s.next mk0)
 (.seq (.reg [] fun c r s K=>fad n0 (r q3) fun v0=>ld s v0 fun v1=>cnv .u64 v1 fun v2=>ixA n50 n1 (r q5) I0 fun v3=>sto s n1 v3 v2 fun s=>K [] s)
 (.seq (.seq (.reg [q9] fun c r s K=>K [I0] s)
 (.block n0 (.loop (.seq (.seq (.reg [q33] fun c r s K=>binK .lss (r q9) I4 fun v0=>K [v0] s)
 (.cond (.t q33) .skip
 (.exit n0)))
 (.seq (.block n1 (.reg [] fun c r s K=>binK .add I1 (r q9) fun v0=>fad n1 (r q3) fun v1=>ixA n4 n1 v1 (r q9) fun v2=>ld s v2 fun v3=>cnv .u64 v3 fun v4=>ixA n50 n1 (r q5) v0 fun v5=>sto s n1 v5 v4 fun s=>K [] s))
 (.reg [q9] fun c r s K=>binK .add (r q9) I1 fun v0=>K [v0] s))))))
 (.seq (.seq (.reg [q46] fun c r s K=>fad n0 (r q6) fun v0=>ld s v0 fun v1=>binK .gtr v1 B0 fun v2=>K [v2] s)
 (.cond (.t q46) (.reg [] fun c r s K=>fad n0 (r q6) fun v0=>ld s v0 fun v1=>cnv .i64 v1 fun v2=>binK .add I4 v2 fun v3=>ixA n50 n1 (r q5) v3 fun v4=>sto s n1 v4 U1 fun s=>K [] s)
 .skip))
 (.seq (.drw [] fun c r s K=>(fun z m=>fad n1 (r q6) fun v0=>dL z m n2 n1 s v0 fun v1 m s=>cnv .i64 v1 fun v2=>binK .add I13 v2 fun v3=>fad n2 (r q6) fun v4=>dL z m n32 n16 s v4 fun v5 m s=>cnv .i64 v5 fun v6=>binK .add I17 v6 fun v7=>ixA n50 n1 (r q5) v3 fun v8=>dS z m (nat_lit 512) (nat_lit 271) s n1 v8 U1 fun _ m s=>ixA n50 n1 (r q5) v7 fun v10=>dS z m (nat_lit 2048) (nat_lit 2047) s n1 v10 U1 fun _ m s=>K [] s) s.next mk0)
 (.seq (.drw [] fun c r s K=>(fun z m=>dN z m n1 n0 s n4 (r q6) fun v0 m s=>dw3 m n2 n1 s (fun s q=>c n45 [v0] s q) fun v1 m s=>fad n3 (r q6) fun v2=>dL z m n8 n4 s v2 fun v3 m s=>cnv .u64 v3 fun v4=>cnv .u64 (r q7) fun v5=>cnv .u64 (r q8) fun v6=>ixA n50 n1 (r q5) I21 fun v7=>dS z m (nat_lit 1024) (nat_lit 515) s n1 v7 v1 fun _ m s=>ixA n50 n1 (r q5) I22 fun v9=>dS z m (nat_lit 4096) (nat_lit 3615) s n1 v9 v4 fun _ m s=>ixA n50 n1 (r q5) I23 fun v11=>dS z m (nat_lit 16384) (nat_lit 15999) s n1 v11 v5 fun _ m s=>ixA n50 n1 (r q5) I24 fun v13=>dS z m (nat_lit 65536) (nat_lit 65535) s n1 v13 v6 fun _ m s=>K [] s) s.next mk0)
 (.seq (.reg [] fun c r s K=>binK .rem (r q8) I16 fun v0=>cnv .u64 v0 fun v1=>binK .quo (r q8) I16 fun v2=>cnv .u64 v2 fun v3=>ixA n50 n1 (r q5) I32 fun v4=>sto s n1 v4 v1 fun s=>ixA n50 n1 (r q5) I33 fun v6=>sto s n1 v6 v3 fun s=>K [] s)
 (.seq (.reg [] fun c r s K=>binK .rem (r q8) I16 fun v0=>fad n5 (r q3) fun v1=>ixA n16 n1 v1 v0 fun v2=>ld s v2 fun v3=>cnv .u64 v3 fun v4=>ixA n50 n1 (r q5) I34 fun v5=>sto s n1 v5 v4 fun s=>K [] s)
 (.seq (.seq (.reg [q92] fun c r s K=>fad n0 (r q6) fun v0=>ld s v0 fun v1=>binK .eql v1 B7 fun v2=>K [v2] s)
 (.cond (.t q92) (.reg [] fun c r s K=>cnv .u64 (r q7) fun v0=>ixA n50 n1 (r q5) I34 fun v1=>sto s n1 v1 v0 fun s=>K [] s)
 .skip))
 (.seq (.reg [q10,q11] fun c r s K=>lN s n4 (r q6) fun v0=>ixA n50 n1 (r q5) I34 fun v1=>ld s v1 fun v2=>c n46 [v0,(r q7),(r q8),v2] s fun v3 s=>xE n0 v3 c r s fun v4 s=>xE n1 v3 c r s fun v5 s=>K [v4,v5] s)
 (.seq (.reg [] fun c r s K=>binK .rem (r q10) U16 fun v0=>binK .quo (r q10) U16 fun v1=>binK .rem (r q11) U16 fun v2=>binK .quo (r q11) U16 fun v3=>ixA n50 n1 (r q5) I25 fun v4=>sto s n1 v4 (r q10) fun s=>ixA n50 n1 (r q5) I26 fun v6=>sto s n1 v6 v0 fun s=>ixA n50 n1 (r q5) I27 fun v8=>sto s n1 v8 v1 fun s=>ixA n50 n1 (r q5) I28 fun v10=>sto s n1 v10 v2 fun s=>ixA n50 n1 (r q5) I29 fun v12=>sto s n1 v12 v3 fun s=>K [] s)
 (.seq (.seq (.reg [q125] fun c r s K=>fad n0 (r q6) fun v0=>ld s v0 fun v1=>binK .eql v1 B8 fun v2=>mt v2 (r q7) s fun v3 s=>jt v2 (binK .neq v3 I0) s fun v4 s=>pck v2 v4 ff fun v5=>K [v5] s)
 (.cond (.t q125) (.reg [] fun c r s K=>cnv .u64 (r q7) fun v0=>c n47 [I3,v0] s fun v1 s=>ixA n50 n1 (r q5) I30 fun v2=>sto s n1 v2 v1 fun s=>ixA n50 n1 (r q5) I31 fun v4=>sto s n1 v4 U1 fun s=>K [] s)
 .skip))
 (.seq (.reg [] fun c r s K=>lN s n50 (r q5) fun v0=>sto s n50 (r q4) v0 fun s=>K [] s)
 .ret)))))))))))))))),[(.cellN n50 q4)],[q0,q1],[q12,q13,q14,q15,q16,q17,q18,q19,q20,q21,q22,q23,q24,q25,q26,q27,q28,q29,q30,q31,q32,q36,q37,q38,q39,q40,q41,q42,q43,q34,q35,q44,q45,q47,q48,q49,q50,q51,q52,q53,q54,q55,q56,q57,q58,q59,q60,q61,q62,q63,q64,q65,q66,q67,q68,q69,q70,q71,q72,q73,q74,q75,q76,q77,q78,q79,q80,q81,q82,q83,q84,q85,q86,q87,q88,q89,q90,q91,q93,q94,q95,q97,q98,q99,q100,q101,q102,q96,q103,q104,q105,q106,q107,q108,q109,q110,q111,q112,q113,q114,q115,q116,q117,q118,q119,q120,q121,q122,q123,q124,q126,q127,q128,q129,q130,q131]⟩
noncomputable def cf47:HF:=⟨
(.seq (.reg [q4] fun c r s K=>K [U0] s)
 (.seq (.seq (.reg [q7] fun c r s K=>c n61 [(r q0)] s fun v0 s=>nott v0 fun v1=>K [v1] s)
 (.cond (.t q7) (.seq (.reg [q4] fun c r s K=>K [U0] s)
 .ret)
 .skip))
 (.seq (.reg [q4] fun c r s K=>c n63 [(r q0)] s fun v0 s=>binK .sub v0 U2 fun v1=>c n62 [(r q0),(r q1),v1] s fun v2 s=>K [v2] s)
 .ret))),[(.tmp q4)],[q0,q1],[q5,q6,q8,q9,q10,q11,q12,q13]⟩
noncomputable def cf62:HF:=⟨
(.seq (.reg [q6] fun c r s K=>K [U0] s)
 (.seq (.seq (.reg [q10] fun c r s K=>c n61 [(r q0)] s fun v0 s=>nott v0 fun v1=>K [v1] s)
 (.cond (.t q10) (.seq (.reg [q6] fun c r s K=>K [U0] s)
 .ret)
 .skip))
 (.seq (.seq (.reg [q12] fun c r s K=>binK .eql (r q2) U0 fun v0=>K [v0] s)
 (.cond (.t q12) (.seq (.reg [q6] fun c r s K=>K [U1] s)
 .ret)
 .skip))
 (.seq (.reg [q7] fun c r s K=>binK .quo (r q2) U2 fun v0=>c n62 [(r q0),(r q1),v0] s fun v1 s=>K [v1] s)
 (.seq (.reg [q7] fun c r s K=>c n90 [(r q0),(r q7),(r q7)] s fun v0 s=>K [v0] s)
 (.seq (.seq (.reg [q24] fun c r s K=>binK .rem (r q2) U2 fun v0=>binK .eql v0 U1 fun v1=>K [v1] s)
 (.cond (.t q24) (.reg [q7] fun c r s K=>c n90 [(r q0),(r q7),(r q1)] s fun v0 s=>K [v0] s)
 .skip))
 (.seq (.reg [q6] fun c r s K=>K [(r q7)] s)
 .ret))))))),[(.tmp q6)],[q0,q1,q2],[q8,q9,q11,q13,q14,q15,q16,q17,q18,q19,q20,q21,q22,q23,q25,q26,q27,q28,q29]⟩
noncomputable def cf90:HF:=⟨
(.seq (.reg [q6] fun c r s K=>K [U0] s)
 (.seq (.seq (.reg [q9] fun c r s K=>c n61 [(r q0)] s fun v0 s=>nott v0 fun v1=>K [v1] s)
 (.cond (.t q9) (.seq (.reg [q6] fun c r s K=>K [U0] s)
 .ret)
 .skip))
 (.seq (.drw [q6] fun c r s K=>(fun z m=>dw3 m n4 n2 s (fun s q=>c n63 [(r q0)] s q) fun v0 m s=>binK .rem (r q1) v0 fun v1=>dw3 m n64 n38 s (fun s q=>c n63 [(r q0)] s q) fun v2 m s=>binK .rem (r q2) v2 fun v3=>binK .mul v1 v3 fun v4=>dw3 m (nat_lit 1024) (nat_lit 614) s (fun s q=>c n63 [(r q0)] s q) fun v5 m s=>binK .rem v4 v5 fun v6=>K [v6] s) s.next mk0)
 .ret))),[(.tmp q6)],[q0,q1,q2],[q7,q8,q10,q11,q12,q13,q14,q15,q16,q17,q18,q19,q20,q21]⟩
noncomputable def cf63:HF:=⟨
(.seq (.reg [q2] fun c r s K=>K [U0] s)
 (.seq (.seq (.reg [q3] fun c r s K=>K [(r q0)] s)
 (.block n0 (.seq (.reg [q4] fun c r s K=>binK .eql (r q3) I0 fun v0=>K [v0] s)
 (.cond (.t q4) (.seq (.reg [q2] fun c r s K=>K [(u6 n97)] s)
 .ret)
 (.seq (.reg [q6] fun c r s K=>binK .eql (r q3) I1 fun v0=>K [v0] s)
 (.cond (.t q6) (.seq (.reg [q2] fun c r s K=>K [(u6 (nat_lit 257))] s)
 .ret)
 (.seq (.reg [q8] fun c r s K=>binK .eql (r q3) I2 fun v0=>K [v0] s)
 (.cond (.t q8) (.seq (.reg [q2] fun c r s K=>K [(u6 (nat_lit 12289))] s)
 .ret)
 (.seq (.reg [q10] fun c r s K=>binK .eql (r q3) I3 fun v0=>K [v0] s)
 (.cond (.t q10) (.seq (.reg [q2] fun c r s K=>(fun v0=>K [v0] s) (u6 (nat_lit 998244353)))
 .ret)
 .skip))))))))))
 (.seq (.reg [q2] fun c r s K=>K [U0] s)
 .ret))),[(.tmp q2)],[q0],[q5,q7,q9,q11]⟩
noncomputable def cf61:HF:=⟨
(.seq (.reg [q2] fun c r s K=>K [ff] s)
 (.seq (.reg [q2] fun c r s K=>binK .geq (r q0) I0 fun v0=>mt v0 (r q0) s fun v1 s=>jt v0 (binK .leq v1 I3) s fun v2 s=>pck v0 v2 ff fun v3=>K [v3] s)
 .ret)),[(.tmp q2)],[q0],[q3,q4,q5,q6,q7,q8]⟩
noncomputable def cf46:HF:=⟨
(.seq (.reg [q4,q8,q9] fun c r s K=>bxx s (r q0) fun v0 s=>K [v0,U0,U0] s)
 (.seq (.seq (.reg [q11] fun c r s K=>fad n0 (r q4) fun v0=>ld s v0 fun v1=>K [v1] s)
 (.block n0 (.seq (.reg [q12] fun c r s K=>binK .eql (r q11) B1 fun v0=>K [v0] s)
 (.cond (.t q12) (.seq (.reg [q8,q9] fun c r s K=>fad n3 (r q4) fun v0=>ld s v0 fun v1=>cnv .u64 v1 fun v2=>K [v2,U0] s)
 .ret)
 (.seq (.reg [q17] fun c r s K=>binK .eql (r q11) B2 fun v0=>K [v0] s)
 (.cond (.t q17) (.seq (.reg [q8,q9] fun c r s K=>cnv .u64 (r q2) fun v0=>K [v0,U0] s)
 .ret)
 (.seq (.reg [q21] fun c r s K=>binK .eql (r q11) B3 fun v0=>K [v0] s)
 (.cond (.t q21) (.seq (.reg [q8,q9] fun c r s K=>binK .add (r q1) (r q2) fun v0=>binK .rem v0 (i6 (nat_lit 256)) fun v1=>cnv .u64 v1 fun v2=>binK .add (r q1) (r q2) fun v3=>binK .quo v3 (i6 (nat_lit 256)) fun v4=>cnv .u64 v4 fun v5=>K [v2,v5] s)
 .ret)
 (.seq (.reg [q33] fun c r s K=>binK .eql (r q11) B4 fun v0=>K [v0] s)
 (.cond (.t q33) (.seq (.seq (.reg [q37] fun c r s K=>binK .lss (r q1) (r q2) fun v0=>K [v0] s)
 (.cond (.t q37) (.seq (.reg [q8,q9] fun c r s K=>binK .sub (r q1) (r q2) fun v0=>binK .add v0 (i6 (nat_lit 256)) fun v1=>cnv .u64 v1 fun v2=>K [v2,U1] s)
 .ret)
 .skip))
 (.seq (.reg [q8,q9] fun c r s K=>binK .sub (r q1) (r q2) fun v0=>cnv .u64 v0 fun v1=>K [v1,U0] s)
 .ret))
 (.seq (.reg [q47] fun c r s K=>binK .eql (r q11) B5 fun v0=>K [v0] s)
 (.cond (.t q47) (.seq (.reg [q8,q9] fun c r s K=>binK .mul (r q1) (r q2) fun v0=>binK .rem v0 (i6 (nat_lit 256)) fun v1=>cnv .u64 v1 fun v2=>binK .mul (r q1) (r q2) fun v3=>binK .quo v3 (i6 (nat_lit 256)) fun v4=>cnv .u64 v4 fun v5=>K [v2,v5] s)
 .ret)
 (.seq (.reg [q59] fun c r s K=>binK .eql (r q11) B6 fun v0=>K [v0] s)
 (.cond (.t q59) (.seq (.reg [q8,q9] fun c r s K=>K [(r q3),U0] s)
 .ret)
 .skip))))))))))))))
 (.seq (.reg [q8,q9] fun c r s K=>cnv .u64 (r q1) fun v0=>K [v0,U0] s)
 .ret))),[(.tmp q8),(.tmp q9)],[q0,q1,q2,q3],[q10,q13,q14,q15,q16,q18,q19,q20,q22,q23,q24,q25,q26,q27,q28,q29,q30,q31,q32,q34,q35,q36,q38,q39,q40,q41,q42,q43,q44,q45,q46,q48,q49,q50,q51,q52,q53,q54,q55,q56,q57,q58,q60,q61,q62,q63]⟩
noncomputable def cf45:HF:=⟨
(.seq (.reg [q1,q2] fun c r s K=>bxx s (r q0) fun v0 s=>K [v0,U0] s)
 (.seq (.reg [q3] fun c r s K=>fad n1 (r q1) fun v0=>ld s v0 fun v1=>binK .add B8 v1 fun v2=>xS true U1 v2 c r s fun v3 s=>fad n2 (r q1) fun v4=>ld s v4 fun v5=>binK .add B12 v5 fun v6=>xS true U1 v6 c r s fun v7 s=>binK .add v3 v7 fun v8=>K [v8] s)
 (.seq (.seq (.reg [q15] fun c r s K=>fad n0 (r q1) fun v0=>ld s v0 fun v1=>binK .gtr v1 B0 fun v2=>K [v2] s)
 (.cond (.t q15) (.reg [q3] fun c r s K=>fad n0 (r q1) fun v0=>ld s v0 fun v1=>binK .sub v1 B1 fun v2=>xS true U1 v2 c r s fun v3 s=>binK .add (r q3) v3 fun v4=>K [v4] s)
 .skip))
 (.seq (.reg [q2] fun c r s K=>K [(r q3)] s)
 .ret)))),[(.tmp q2)],[q0],[q4,q5,q6,q7,q8,q9,q10,q11,q12,q13,q14,q16,q17,q18,q19,q20,q21,q22]⟩
noncomputable def cf44:HF:=⟨
(.seq (.reg [q4] fun c r s K=>alc s [zb,zb,zb,zb] fun v0 s=>K [v0] s)
 (.seq (.seq (.reg [q12] fun c r s K=>binK .lss (r q1) I0 fun v0=>mf v0 (r q1) s fun v1 s=>mf v0 (r q0) s fun v2 s=>jf v0 (lnS v2) s fun v3 s=>jf v0 (binK .geq v1 v3) s fun v4 s=>pck v0 tt v4 fun v5=>K [v5] s)
 (.cond (.t q12) (.seq (.reg [] fun c r s K=>h_op3_build [zb,zb,zb,zb] [] c r s fun v0 s=>sto s n4 (r q4) v0 fun s=>K [] s)
 .ret)
 .skip))
 (.seq (.reg [] fun c r s K=>ixs n4 (r q0) (r q1) fun v0=>lN s n4 v0 fun v1=>sto s n4 (r q4) v1 fun s=>K [] s)
 .ret))),[(.cellN n4 q4)],[q0,q1],[q5,q6,q7,q8,q9,q10,q11,q13,q14,q15,q16,q17]⟩
noncomputable def cf21:HF:=⟨
(.seq (.reg [q3,q4] fun c r s K=>bxx s (r q1) fun v0 s=>K [v0,ff] s)
 (.seq (.reg [q4] fun c r s K=>lN s n21 (r q3) fun v0=>c n43 [(r q0),v0] s fun v1 s=>mt v1 (r q0) s fun v2 s=>jt v1 (fad n0 (r q3)) s fun v3 s=>jt v1 (ld s v3) s fun v4 s=>jn true v1 (fun j=>c n44 [v2,v4] s j) s fun v5 s=>jt v1 (fld n0 n1 false v5) s fun v6 s=>jt v1 (binK .eql v6 B0) s fun v7 s=>pck v1 v7 ff fun v8=>K [v8] s)
 .ret)),[(.tmp q4)],[q0,q1],[q5,q6,q7,q8,q9,q10,q11,q12,q13,q14,q15]⟩
noncomputable def cf43:HF:=⟨
(.seq (.reg [q3,q4] fun c r s K=>bxx s (r q1) fun v0 s=>K [v0,ff] s)
 (.seq (.reg [q4] fun c r s K=>c n40 [(r q0)] s fun v0 s=>binK .eql v0 I0 fun v1=>jt v1 (fad n0 (r q3)) s fun v2 s=>jt v1 (ld s v2) s fun v3 s=>jt v1 (binK .geq v3 I0) s fun v4 s=>pck v1 v4 ff fun v5=>jt v5 (fad n0 (r q3)) s fun v6 s=>jt v5 (ld s v6) s fun v7 s=>mt v5 (r q0) s fun v8 s=>jt v5 (lnS v8) s fun v9 s=>jt v5 (binK .leq v7 v9) s fun v10 s=>pck v5 v10 ff fun v11=>K [v11] s)
 .ret)),[(.tmp q4)],[q0,q1],[q5,q6,q7,q8,q9,q10,q11,q12,q13,q14,q15,q16,q17,q18,q19]⟩
noncomputable def cf40:HF:=⟨
(.seq (.reg [q2] fun c r s K=>K [I0] s)
 (.seq (.seq (.reg [q6] fun c r s K=>lnS (r q0) fun v0=>binK .gtr v0 I32 fun v1=>K [v1] s)
 (.cond (.t q6) (.seq (.reg [q2] fun c r s K=>K [I3] s)
 .ret)
 .skip))
 (.seq (.seq (.reg [q3] fun c r s K=>K [I0] s)
 (.block n0 (.loop (.seq (.seq (.reg [q10] fun c r s K=>lnS (r q0) fun v0=>binK .lss (r q3) v0 fun v1=>K [v1] s)
 (.cond (.t q10) .skip
 (.exit n0)))
 (.seq (.block n1 (.seq (.seq (.reg [q18] fun c r s K=>ixs n4 (r q0) (r q3) fun v0=>lN s n4 v0 fun v1=>c n60 [v1] s fun v2 s=>nott v2 fun v3=>K [v3] s)
 (.cond (.t q18) (.seq (.reg [q2] fun c r s K=>K [I1] s)
 .ret)
 .skip))
 (.seq (.reg [q35] fun c r s K=>ixs n4 (r q0) (r q3) fun v0=>fad n0 v0 fun v1=>ld s v1 fun v2=>binK .eql v2 B8 fun v3=>mt v3 (r q0) s fun v4 s=>mt v3 (r q3) s fun v5 s=>jt v3 (ixs n4 v4 v5) s fun v6 s=>jt v3 (fad n3 v6) s fun v7 s=>jt v3 (ld s v7) s fun v8 s=>jt v3 (cnv .i64 v8) s fun v9 s=>mt v3 (r q0) s fun v10 s=>jt v3 (lnS v10) s fun v11 s=>jt v3 (binK .gtr v9 v11) s fun v12 s=>pck v3 v12 ff fun v13=>K [v13] s)
 (.cond (.t q35) (.seq (.reg [q2] fun c r s K=>K [I2] s)
 .ret)
 .skip))))
 (.reg [q3] fun c r s K=>binK .add (r q3) I1 fun v0=>K [v0] s))))))
 (.seq (.reg [q2] fun c r s K=>K [I0] s)
 .ret)))),[(.tmp q2)],[q0],[q4,q5,q7,q8,q9,q13,q14,q15,q16,q17,q19,q20,q21,q22,q23,q24,q25,q26,q27,q28,q29,q30,q31,q32,q33,q34,q11,q12]⟩
noncomputable def cf60:HF:=⟨
(.seq (.reg [q1,q2] fun c r s K=>bxx s (r q0) fun v0 s=>K [v0,ff] s)
 (.seq (.reg [q2] fun c r s K=>fad n0 (r q1) fun v0=>ld s v0 fun v1=>binK .leq v1 B8 fun v2=>jt v2 (fad n1 (r q1)) s fun v3 s=>jt v2 (ld s v3) s fun v4 s=>jt v2 (binK .leq v4 B3) s fun v5 s=>pck v2 v5 ff fun v6=>jt v6 (fad n2 (r q1)) s fun v7 s=>jt v6 (ld s v7) s fun v8 s=>jt v6 (binK .leq v8 B3) s fun v9 s=>pck v6 v9 ff fun v10=>jt v10 (fad n0 (r q1)) s fun v11 s=>jt v10 (ld s v11) s fun v12 s=>jt v10 (binK .neq v12 B0) s fun v13 s=>mt v10 v13 s fun v14 s=>jf v14 (fad n1 (r q1)) s fun v15 s=>jf v14 (ld s v15) s fun v16 s=>jf v14 (binK .eql v16 B0) s fun v17 s=>jt v10 (pck v14 tt v17) s fun v18 s=>pck v10 v18 ff fun v19=>jt v19 (fad n0 (r q1)) s fun v20 s=>jt v19 (ld s v20) s fun v21 s=>jn true v19 (fun j=>c n88 [v21] s j) s fun v22 s=>mt v19 v22 s fun v23 s=>jf v23 (fad n2 (r q1)) s fun v24 s=>jf v23 (ld s v24) s fun v25 s=>jf v23 (binK .eql v25 B0) s fun v26 s=>jt v19 (pck v23 tt v26) s fun v27 s=>pck v19 v27 ff fun v28=>jt v28 (fad n0 (r q1)) s fun v29 s=>jt v28 (ld s v29) s fun v30 s=>jn true v28 (fun j=>c n89 [v30] s j) s fun v31 s=>mt v28 v31 s fun v32 s=>jf v32 (fad n3 (r q1)) s fun v33 s=>jf v32 (ld s v33) s fun v34 s=>jf v32 (binK .eql v34 B0) s fun v35 s=>jt v28 (pck v32 tt v35) s fun v36 s=>pck v28 v36 ff fun v37=>K [v37] s)
 .ret)),[(.tmp q2)],[q0],[q3,q4,q5,q6,q7,q8,q9,q10,q11,q12,q13,q14,q15,q16,q17,q18,q19,q20,q21,q22,q23,q24,q25,q26,q27,q28,q29,q30,q31,q32,q33,q34,q35,q36,q37,q38,q39,q40,q41,q42,q43,q44,q45]⟩
noncomputable def cf89:HF:=⟨
(.seq (.reg [q2] fun c r s K=>K [ff] s)
 (.seq (.reg [q2] fun c r s K=>binK .eql (r q0) B1 fun v0=>mf v0 (r q0) s fun v1 s=>jf v0 (binK .eql v1 B8) s fun v2 s=>pck v0 tt v2 fun v3=>K [v3] s)
 .ret)),[(.tmp q2)],[q0],[q3,q4,q5,q6,q7,q8]⟩
noncomputable def cf88:HF:=⟨
(.seq (.reg [q2] fun c r s K=>K [ff] s)
 (.seq (.reg [q2] fun c r s K=>binK .geq (r q0) B2 fun v0=>mt v0 (r q0) s fun v1 s=>jt v0 (binK .leq v1 B7) s fun v2 s=>pck v0 v2 ff fun v3=>K [v3] s)
 .ret)),[(.tmp q2)],[q0],[q3,q4,q5,q6,q7,q8]⟩
noncomputable def cf19:HF:=⟨
(.seq (.reg [q4,q6,q7] fun c r s K=>bxx s (r q1) fun v0 s=>K [v0,(.sc zn),I0] s)
 (.seq (.reg [q8] fun c r s K=>lN s n21 (r q4) fun v0=>c n41 [(r q0),v0,(r q2)] s fun v1 s=>K [v1] s)
 (.seq (.seq (.reg [q16] fun c r s K=>binK .neq (r q8) I0 fun v0=>K [v0] s)
 (.cond (.t q16) (.seq (.reg [q6,q7] fun c r s K=>K [(.sc zn),(r q8)] s)
 .ret)
 .skip))
 (.seq (.reg [q9] fun c r s K=>K [(.sc zn)] s)
 (.seq (.seq (.reg [q10] fun c r s K=>K [I0] s)
 (.block n0 (.loop (.seq (.seq (.reg [q20] fun c r s K=>binK .lss (r q10) (r q2) fun v0=>K [v0] s)
 (.cond (.t q20) .skip
 (.exit n0)))
 (.seq (.block n1 (.seq (.reg [q9] fun c r s K=>lN s n21 (r q4) fun v0=>h_op3_buildS n1 n21 [zi,zb,zb,zb,zb,zb,zb,zb,zb,zb,zb,zb,zb,zb,zb,zb,zb,zb,zb,zb,zb] [(n0,n21,(.c v0))] c r s fun v1 s=>xA n21 n32 (r q9) v1 c r s fun v2 s=>K [v2] s)
 (.reg [] fun c r s K=>lN s n21 (r q4) fun v0=>c n42 [(r q0),v0] s fun v1 s=>xE n0 v1 c r s fun v2 s=>xE n1 v1 c r s fun v3 s=>sto s n21 (r q4) v2 fun s=>K [] s)))
 (.reg [q10] fun c r s K=>binK .add (r q10) I1 fun v0=>K [v0] s))))))
 (.seq (.reg [q6,q7] fun c r s K=>K [(r q9),I0] s)
 .ret)))))),[(.tmp q6),(.tmp q7)],[q0,q1,q2],[q11,q12,q13,q14,q15,q17,q18,q19,q23,q24,q25,q26,q28,q29,q30,q27,q31,q32,q21,q22,q33]⟩
noncomputable def cf42:HF:=⟨
(.seq (.reg [q3,q4,q5] fun c r s K=>bxx s (r q1) fun v0 s=>alc s [zi,zb,zb,zb,zb,zb,zb,zb,zb,zb,zb,zb,zb,zb,zb,zb,zb,zb,zb,zb,zb] fun v1 s=>K [v0,v1,I0] s)
 (.seq (.seq (.reg [q13] fun c r s K=>lN s n21 (r q3) fun v0=>c n43 [(r q0),v0] s fun v1 s=>nott v1 fun v2=>K [v2] s)
 (.cond (.t q13) (.seq (.reg [q5] fun c r s K=>h_op3_build [zi,zb,zb,zb,zb,zb,zb,zb,zb,zb,zb,zb,zb,zb,zb,zb,zb,zb,zb,zb,zb] [] c r s fun v0 s=>sto s n21 (r q4) v0 fun s=>K [I1] s)
 .ret)
 .skip))
 (.seq (.reg [q6] fun c r s K=>fad n0 (r q3) fun v0=>ld s v0 fun v1=>c n44 [(r q0),v1] s fun v2 s=>alc s [zb,zb,zb,zb] fun v3 s=>sto s n4 v3 v2 fun s=>K [v3] s)
 (.seq (.drw [q7,q8] fun c r s K=>(fun z m=>fad n1 (r q6) fun v0=>dL z m n2 n1 s v0 fun v1 m s=>fad n1 (r q3) fun v2=>ixA n4 n1 v2 v1 fun v3=>dL z m n16 n15 s v3 fun v4 m s=>fad n2 (r q6) fun v5=>dL z m n64 n32 s v5 fun v6 m s=>fad n1 (r q3) fun v7=>ixA n4 n1 v7 v6 fun v8=>dL z m (nat_lit 512) (nat_lit 480) s v8 fun v9 m s=>K [v4,v9] s) s.next mk0)
 (.seq (.reg [q9] fun c r s K=>fad n0 (r q3) fun v0=>ld s v0 fun v1=>binK .add v1 I1 fun v2=>K [v2] s)
 (.seq (.seq (.reg [q33] fun c r s K=>fad n0 (r q6) fun v0=>ld s v0 fun v1=>K [v1] s)
 (.block n0 (.seq (.reg [q34] fun c r s K=>binK .eql (r q33) B0 fun v0=>K [v0] s)
 (.cond (.t q34) (.reg [q9] fun c r s K=>fad n0 (r q3) fun v0=>ld s v0 fun v1=>K [v1] s)
 (.seq (.reg [q38] fun c r s K=>binK .eql (r q33) B1 fun v0=>K [v0] s)
 (.cond (.t q38) (.reg [] fun c r s K=>fad n1 (r q6) fun v0=>ld s v0 fun v1=>fad n3 (r q6) fun v2=>ld s v2 fun v3=>fad n1 (r q3) fun v4=>ixA n4 n1 v4 v1 fun v5=>sto s n1 v5 v3 fun s=>K [] s)
 (.seq (.reg [q46] fun c r s K=>binK .eql (r q33) B2 fun v0=>K [v0] s)
 (.cond (.t q46) (.reg [] fun c r s K=>fad n1 (r q6) fun v0=>ld s v0 fun v1=>fad n1 (r q3) fun v2=>ixA n4 n1 v2 v1 fun v3=>sto s n1 v3 (r q8) fun s=>K [] s)
 (.seq (.reg [q53] fun c r s K=>binK .eql (r q33) B3 fun v0=>K [v0] s)
 (.cond (.t q53) (.reg [] fun c r s K=>fad n1 (r q6) fun v0=>ld s v0 fun v1=>cnv .i64 (r q7) fun v2=>cnv .i64 (r q8) fun v3=>binK .add v2 v3 fun v4=>binK .rem v4 (i6 (nat_lit 256)) fun v5=>cnv .u8 v5 fun v6=>fad n1 (r q3) fun v7=>ixA n4 n1 v7 v1 fun v8=>sto s n1 v8 v6 fun s=>K [] s)
 (.seq (.reg [q66] fun c r s K=>binK .eql (r q33) B4 fun v0=>K [v0] s)
 (.cond (.t q66) (.reg [] fun c r s K=>fad n1 (r q6) fun v0=>ld s v0 fun v1=>cnv .i64 (r q7) fun v2=>cnv .i64 (r q8) fun v3=>binK .sub v2 v3 fun v4=>binK .add v4 (i6 (nat_lit 256)) fun v5=>binK .rem v5 (i6 (nat_lit 256)) fun v6=>cnv .u8 v6 fun v7=>fad n1 (r q3) fun v8=>ixA n4 n1 v8 v1 fun v9=>sto s n1 v9 v7 fun s=>K [] s)
 (.seq (.reg [q80] fun c r s K=>binK .eql (r q33) B5 fun v0=>K [v0] s)
 (.cond (.t q80) (.reg [] fun c r s K=>fad n1 (r q6) fun v0=>ld s v0 fun v1=>cnv .i64 (r q7) fun v2=>cnv .i64 (r q8) fun v3=>binK .mul v2 v3 fun v4=>binK .rem v4 (i6 (nat_lit 256)) fun v5=>cnv .u8 v5 fun v6=>fad n1 (r q3) fun v7=>ixA n4 n1 v7 v1 fun v8=>sto s n1 v8 v6 fun s=>K [] s)
 (.seq (.reg [q93] fun c r s K=>binK .eql (r q33) B6 fun v0=>K [v0] s)
 (.cond (.t q93) (.drw [] fun c r s K=>(fun z m=>fad n1 (r q6) fun v0=>dL z m n2 n1 s v0 fun v1 m s=>binK .rem (r q8) B16 fun v2=>fad n5 (r q3) fun v3=>ixA n16 n1 v3 v2 fun v4=>dL z m n64 n60 s v4 fun v5 m s=>fad n1 (r q3) fun v6=>ixA n4 n1 v6 v1 fun v7=>dS z m (nat_lit 512) (nat_lit 511) s n1 v7 v5 fun _ m s=>K [] s) s.next mk0)
 (.seq (.reg [q104] fun c r s K=>binK .eql (r q33) B7 fun v0=>K [v0] s)
 (.cond (.t q104) (.reg [] fun c r s K=>binK .rem (r q8) B16 fun v0=>fad n5 (r q3) fun v1=>ixA n16 n1 v1 v0 fun v2=>sto s n1 v2 (r q7) fun s=>K [] s)
 (.seq (.reg [q111] fun c r s K=>binK .eql (r q33) B8 fun v0=>K [v0] s)
 (.cond (.t q111) (.seq (.reg [q114] fun c r s K=>binK .neq (r q7) B0 fun v0=>K [v0] s)
 (.cond (.t q114) (.reg [q9] fun c r s K=>fad n3 (r q6) fun v0=>ld s v0 fun v1=>cnv .i64 v1 fun v2=>K [v2] s)
 .skip))
 .skip))))))))))))))))))))
 (.seq (.reg [] fun c r s K=>fad n0 (r q3) fun v0=>sto s n1 v0 (r q9) fun s=>K [] s)
 (.seq (.reg [q5] fun c r s K=>lN s n21 (r q3) fun v0=>sto s n21 (r q4) v0 fun s=>K [I0] s)
 .ret)))))))),[(.cellN n21 q4),(.tmp q5)],[q0,q1],[q10,q11,q12,q14,q15,q16,q17,q18,q19,q20,q21,q22,q23,q24,q25,q26,q27,q28,q29,q30,q31,q32,q35,q36,q37,q39,q40,q41,q42,q43,q44,q45,q47,q48,q49,q50,q51,q52,q54,q55,q56,q57,q58,q59,q60,q61,q62,q63,q64,q65,q67,q68,q69,q70,q71,q72,q73,q74,q75,q76,q77,q78,q79,q81,q82,q83,q84,q85,q86,q87,q88,q89,q90,q91,q92,q94,q95,q96,q97,q98,q99,q100,q101,q102,q103,q105,q106,q107,q108,q109,q110,q112,q113,q115,q116,q117,q118,q119,q120]⟩
noncomputable def cf41:HF:=⟨
(.seq (.reg [q4,q6] fun c r s K=>bxx s (r q1) fun v0 s=>K [v0,I0] s)
 (.seq (.seq (.reg [q14] fun c r s K=>lN s n21 (r q4) fun v0=>c n43 [(r q0),v0] s fun v1 s=>nott v1 fun v2=>mf v2 (r q2) s fun v3 s=>jf v2 (binK .lss v3 I0) s fun v4 s=>pck v2 tt v4 fun v5=>K [v5] s)
 (.cond (.t q14) (.seq (.reg [q6] fun c r s K=>K [I1] s)
 .ret)
 .skip))
 (.seq (.seq (.reg [q16] fun c r s K=>binK .gtr (r q2) (i6 (nat_lit 65536)) fun v0=>K [v0] s)
 (.cond (.t q16) (.seq (.reg [q6] fun c r s K=>K [I3] s)
 .ret)
 .skip))
 (.seq (.reg [q6] fun c r s K=>K [I0] s)
 .ret)))),[(.tmp q6)],[q0,q1,q2],[q7,q8,q9,q10,q11,q12,q13,q15]⟩
noncomputable def cf20:HF:=⟨
(.seq (.reg [q1,q2] fun c r s K=>bxx s (r q0) fun v0 s=>alc s [zi,zb,zb,zb,zb,zb,zb,zb,zb,zb,zb,zb,zb,zb,zb,zb,zb,zb,zb,zb,zb] fun v1 s=>K [v0,v1] s)
 (.seq (.reg [] fun c r s K=>lN s n4 (r q1) fun v0=>h_op3_build [zi,zb,zb,zb,zb,zb,zb,zb,zb,zb,zb,zb,zb,zb,zb,zb,zb,zb,zb,zb,zb] [(n1,n4,(.c v0))] c r s fun v1 s=>sto s n21 (r q2) v1 fun s=>K [] s)
 .ret)),[(.cellN n21 q2)],[q0],[q3,q4]⟩
noncomputable def cf18:HF:=⟨
(.seq (.reg [q4] fun c r s K=>K [I0] s)
 (.seq (.seq (.reg [q15] fun c r s K=>c n40 [(r q0)] s fun v0 s=>binK .neq v0 I0 fun v1=>mf v1 (r q1) s fun v2 s=>jf v1 (binK .lss v2 I4) s fun v3 s=>pck v1 tt v3 fun v4=>mf v4 (r q1) s fun v5 s=>jf v4 (binK .gtr v5 I13) s fun v6 s=>pck v4 tt v6 fun v7=>K [v7] s)
 (.cond (.t q15) (.seq (.reg [q4] fun c r s K=>K [I1] s)
 .ret)
 .skip))
 (.seq (.seq (.reg [q20] fun c r s K=>xS true I1 (r q1) c r s fun v0 s=>lnS (r q0) fun v1=>binK .leq v0 v1 fun v2=>K [v2] s)
 (.cond (.t q20) (.seq (.reg [q4] fun c r s K=>K [I3] s)
 .ret)
 .skip))
 (.seq (.reg [q4] fun c r s K=>K [I0] s)
 .ret)))),[(.tmp q4)],[q0,q1],[q5,q6,q7,q8,q9,q10,q11,q12,q13,q14,q16,q17,q18,q19]⟩
noncomputable def cf6:HF:=⟨
(.seq (.reg [q4,q6,q7] fun c r s K=>bxx s (r q1) fun v0 s=>alc s [zn,zn] fun v1 s=>K [v0,v1,I0] s)
 (.seq (.seq (.reg [q8] fun c r s K=>c n11 [(r q0),(r q2)] s fun v0 s=>K [v0] s)
 (.seq (.reg [q29] fun c r s K=>binK .neq (r q8) I0 fun v0=>K [v0] s)
 (.cond (.t q29) (.seq (.reg [q7] fun c r s K=>h_op3_build [zn,zn] [] c r s fun v0 s=>sto s n2 (r q6) v0 fun s=>K [(r q8)] s)
 .ret)
 .skip)))
 (.seq (.drw [q9] fun c r s K=>(fun z m=>dN z m n2 n0 s n4 (r q4) fun v0 m s=>dw3 m n4 n2 s (fun s q=>c n13 [v0] s q) fun v1 m s=>xS true I1 (r q2) c r s fun v2 s=>dw3 m n32 n31 s (fun s q=>c n12 [(r q0),v1,v2] s q) fun v3 m s=>xE n0 v3 c r s fun v4 s=>xE n1 v3 c r s fun v5 s=>K [v4] s) s.next mk0)
 (.seq (.reg [q11] fun c r s K=>lnS (r q9) fun v0=>binK .sub v0 I1 fun v1=>ixs n21 (r q9) v1 fun v2=>lN s n21 v2 fun v3=>alc s [zi,zb,zb,zb,zb,zb,zb,zb,zb,zb,zb,zb,zb,zb,zb,zb,zb,zb,zb,zb,zb] fun v4 s=>sto s n21 v4 v3 fun s=>K [v4] s)
 (.seq (.seq (.reg [q50] fun c r s K=>lN s n21 (r q11) fun v0=>c n14 [(r q0),v0] s fun v1 s=>nott v1 fun v2=>K [v2] s)
 (.cond (.t q50) (.seq (.reg [q7] fun c r s K=>h_op3_build [zn,zn] [] c r s fun v0 s=>sto s n2 (r q6) v0 fun s=>K [I8] s)
 .ret)
 .skip))
 (.seq (.reg [q12] fun c r s K=>lnS (r q9) fun v0=>xM n50 (nat_lit 400) [zu,zu,zu,zu,zu,zu,zu,zu,zu,zu,zu,zu,zu,zu,zu,zu,zu,zu,zu,zu,zu,zu,zu,zu,zu,zu,zu,zu,zu,zu,zu,zu,zu,zu,zu,zu,zu,zu,zu,zu,zu,zu,zu,zu,zu,zu,zu,zu,zu,zu] v0 v0 c r s fun v1 s=>K [v1] s)
 (.seq (.seq (.reg [q55,q56,q57] fun c r s K=>lnS (r q9) fun v0=>K [(r q9),v0,I0] s)
 (.block n0 (.loop (.seq (.reg [q58] fun c r s K=>binK .lss (r q57) (r q56) fun v0=>K [v0] s)
 (.seq (.cond (.t q58) .skip
 (.exit n0))
 (.seq (.block n1 (.seq (.reg [q14,q13] fun c r s K=>ixs n21 (r q55) (r q57) fun v0=>lN s n21 v0 fun v1=>alc s [zi,zb,zb,zb,zb,zb,zb,zb,zb,zb,zb,zb,zb,zb,zb,zb,zb,zb,zb,zb,zb] fun v2 s=>sto s n21 v2 v1 fun s=>K [v2,(r q57)] s)
 (.reg [] fun c r s K=>lN s n21 (r q14) fun v0=>c n15 [(r q0),v0] s fun v1 s=>ixs n50 (r q12) (r q13) fun v2=>sto s n50 v2 v1 fun s=>K [] s)))
 (.reg [q57] fun c r s K=>binK .add (r q57) I1 fun v0=>K [v0] s)))))))
 (.seq (.reg [] fun c r s K=>c n16 [(r q12)] s fun v0 s=>K [] s)
 (.seq (.seq (.reg [q72,q73] fun c r s K=>lnS (r q12) fun v0=>K [v0,I0] s)
 (.block n2 (.loop (.seq (.reg [q74] fun c r s K=>binK .lss (r q73) (r q72) fun v0=>K [v0] s)
 (.seq (.cond (.t q74) .skip
 (.exit n2))
 (.seq (.block n3 (.seq (.reg [q15] fun c r s K=>K [(r q73)] s)
 (.seq (.reg [q76,q77] fun c r s K=>c n17 [] s fun v0 s=>K [v0,I0] s)
 (.block n4 (.loop (.seq (.reg [q78] fun c r s K=>binK .lss (r q77) I8 fun v0=>K [v0] s)
 (.seq (.cond (.t q78) .skip
 (.exit n4))
 (.seq (.block n5 (.seq (.reg [q16,q17] fun c r s K=>h_op2_idxV n8 n1 false (.c (r q76)) (.c (r q77)) c r s fun v0 s=>K [(r q77),v0] s)
 (.drw [] fun c r s K=>(fun z m=>ixs n50 (r q12) (r q15) fun v0=>ixA n50 n1 v0 (r q17) fun v1=>dL z m n64 n62 s v1 fun v2 m s=>binK .add (i6 n42) (r q16) fun v3=>ixs n50 (r q12) v2 fun v4=>ixA n50 n1 v4 v3 fun v5=>dL z m (nat_lit 2048) (nat_lit 2047) s v5 fun v6 m s=>binK .add v6 U1 fun v7=>ixs n50 (r q12) v2 fun v8=>ixA n50 n1 v8 v3 fun v9=>dS z m (nat_lit 32768) (nat_lit 32767) s n1 v9 v7 fun _ m s=>K [] s) s.next mk0)))
 (.reg [q77] fun c r s K=>binK .add (r q77) I1 fun v0=>K [v0] s)))))))))
 (.reg [q73] fun c r s K=>binK .add (r q73) I1 fun v0=>K [v0] s)))))))
 (.seq (.reg [q18] fun c r s K=>xM n1 n24 [zn] (i6 n50) (i6 n50) c r s fun v0 s=>h_op3_build [zn,zn] [(n1,n1,(.c v0))] c r s fun v1 s=>alc s [zn,zn] fun v2 s=>sto s n2 v2 v1 fun s=>K [v2] s)
 (.seq (.seq (.reg [q102,q103] fun c r s K=>fad n1 (r q18) fun v0=>ld s v0 fun v1=>lnS v1 fun v2=>K [v2,I0] s)
 (.block n6 (.loop (.seq (.reg [q104] fun c r s K=>binK .lss (r q103) (r q102) fun v0=>K [v0] s)
 (.seq (.cond (.t q104) .skip
 (.exit n6))
 (.seq (.block n7 (.seq (.reg [q19] fun c r s K=>K [(r q103)] s)
 (.seq (.reg [q107,q108] fun c r s K=>lnS (r q12) fun v0=>K [v0,I0] s)
 (.block n8 (.loop (.seq (.reg [q109] fun c r s K=>binK .lss (r q108) (r q107) fun v0=>K [v0] s)
 (.seq (.cond (.t q109) .skip
 (.exit n8))
 (.seq (.block n9 (.seq (.reg [q20] fun c r s K=>K [(r q108)] s)
 (.drw [] fun c r s K=>(fun z m=>fad n1 (r q18) fun v0=>dL z m n2 n1 s v0 fun v1 m s=>fad n1 (r q18) fun v2=>dL z m n16 n8 s v2 fun v3 m s=>ixs n1 v3 (r q19) fun v4=>dL z m n128 n120 s v4 fun v5 m s=>ixs n50 (r q12) (r q20) fun v6=>ixA n50 n1 v6 (r q19) fun v7=>dL z m (nat_lit 8192) (nat_lit 7936) s v7 fun v8 m s=>dw1 m (nat_lit 16384) (fun q=>h_op3_buildS n1 n1 [zu] [(n0,n1,(.c v8))] c r s q) fun v9 m s=>dw5 z m (nat_lit 32768) (nat_lit 32760) s (.more (.more (.append n1 n8 (.c v5) (.c v9)))) r (fun s q=>xA n1 n8 v5 v9 c r s q) fun v10 m s=>ixs n1 v1 (r q19) fun v11=>dS z m (nat_lit 131072) (nat_lit 131071) s n1 v11 v10 fun _ m s=>K [] s) s.next mk0)))
 (.reg [q108] fun c r s K=>binK .add (r q108) I1 fun v0=>K [v0] s)))))))))
 (.reg [q103] fun c r s K=>binK .add (r q103) I1 fun v0=>K [v0] s)))))))
 (.seq (.seq (.drw [q134,q135] fun c r s K=>(fun z m=>ixs n21 (r q9) I0 fun v0=>dN z m n4 n3 s n21 v0 fun v1 m s=>dN z m n8 n0 s n21 (r q11) fun v2 m s=>h_op3_build [zi,zb,zb,zb,zb,zb,zb,zb,zb,zb,zb,zb,zb,zb,zb,zb,zb,zb,zb,zb,zb,zi,zb,zb,zb,zb,zb,zb,zb,zb,zb,zb,zb,zb,zb,zb,zb,zb,zb,zb,zb,zb] [(n0,n21,(.c v1)),(n21,n21,(.c v2))] c r s fun v3 s=>K [v3,I0] s) s.next mk0)
 (.block n10 (.loop (.seq (.reg [q136] fun c r s K=>binK .lss (r q135) I2 fun v0=>K [v0] s)
 (.seq (.cond (.t q136) .skip
 (.exit n10))
 (.seq (.block n11 (.seq (.reg [q22] fun c r s K=>h_op2_idxV n2 n21 true (.c (r q134)) (.c (r q135)) c r s fun v0 s=>alc s [zi,zb,zb,zb,zb,zb,zb,zb,zb,zb,zb,zb,zb,zb,zb,zb,zb,zb,zb,zb,zb] fun v1 s=>sto s n21 v1 v0 fun s=>K [v1] s)
 (.seq (.reg [q139,q140] fun c r s K=>fad n1 (r q22) fun v0=>lN s n4 v0 fun v1=>K [v1,I0] s)
 (.block n12 (.loop (.seq (.reg [q141] fun c r s K=>binK .lss (r q140) I4 fun v0=>K [v0] s)
 (.seq (.cond (.t q141) .skip
 (.exit n12))
 (.seq (.block n13 (.seq (.reg [q24] fun c r s K=>h_op2_idxV n4 n1 false (.c (r q139)) (.c (r q140)) c r s fun v0 s=>K [v0] s)
 (.reg [] fun c r s K=>fad n0 (r q18) fun v0=>ld s v0 fun v1=>cnv .u64 (r q24) fun v2=>h_op3_buildS n1 n1 [zu] [(n0,n1,(.c v2))] c r s fun v3 s=>xA n1 n8 v1 v3 c r s fun v4 s=>fad n0 (r q18) fun v5=>sto s n1 v5 v4 fun s=>K [] s)))
 (.reg [q140] fun c r s K=>binK .add (r q140) I1 fun v0=>K [v0] s)))))))))
 (.reg [q135] fun c r s K=>binK .add (r q135) I1 fun v0=>K [v0] s)))))))
 (.seq (.reg [q7] fun c r s K=>lN s n2 (r q18) fun v0=>sto s n2 (r q6) v0 fun s=>K [I0] s)
 .ret))))))))))))),[(.cellN n2 q6),(.tmp q7)],[q0,q1,q2],[q25,q26,q27,q28,q30,q31,q33,q34,q35,q36,q37,q38,q32,q39,q40,q10,q41,q42,q43,q44,q45,q46,q47,q48,q49,q51,q52,q53,q54,q59,q60,q61,q62,q63,q64,q65,q66,q67,q68,q69,q70,q71,q75,q79,q80,q81,q82,q83,q84,q85,q86,q87,q88,q89,q90,q91,q92,q93,q94,q95,q96,q97,q98,q99,q100,q101,q105,q106,q110,q111,q112,q113,q114,q115,q116,q117,q118,q119,q120,q121,q122,q123,q124,q125,q126,q127,q128,q129,q130,q131,q132,q133,q137,q138,q142,q143,q144,q145,q146,q147,q148,q149,q150,q151,q152]⟩
noncomputable def cf16:HF:=⟨
(.seq (.reg [q1] fun c r s K=>bxx s (r q0) fun v0 s=>K [v0] s)
 (.seq (.reg [q2] fun c r s K=>ld s (r q1) fun v0=>lnS v0 fun v1=>xM n1 n8 [zi] v1 v1 c r s fun v2 s=>K [v2] s)
 (.seq (.seq (.reg [q12,q13] fun c r s K=>lnS (r q2) fun v0=>K [v0,I0] s)
 (.block n0 (.loop (.seq (.reg [q14] fun c r s K=>binK .lss (r q13) (r q12) fun v0=>K [v0] s)
 (.seq (.cond (.t q14) .skip
 (.exit n0))
 (.seq (.block n1 (.seq (.reg [q3] fun c r s K=>K [(r q13)] s)
 (.reg [] fun c r s K=>ixs n1 (r q2) (r q3) fun v0=>sto s n1 v0 (r q3) fun s=>K [] s)))
 (.reg [q13] fun c r s K=>binK .add (r q13) I1 fun v0=>K [v0] s)))))))
 (.seq (.reg [] fun c r s K=>h_op4_makeFunc n36 [(.c (r q1))] c r s fun v0 s=>c n35 [(r q2),v0] s fun v1 s=>K [] s)
 (.seq (.reg [q24,q25,q26] fun c r s K=>lnS (r q2) fun v0=>K [(r q2),v0,I0] s)
 (.block n2 (.loop (.seq (.reg [q27] fun c r s K=>binK .lss (r q26) (r q25) fun v0=>K [v0] s)
 (.seq (.cond (.t q27) .skip
 (.exit n2))
 (.seq (.block n3 (.seq (.reg [q4,q5] fun c r s K=>ixs n1 (r q24) (r q26) fun v0=>ld s v0 fun v1=>K [(r q26),v1] s)
 (.seq (.reg [q6] fun c r s K=>ld s (r q1) fun v0=>ixs n50 v0 (r q4) fun v1=>K [v1] s)
 (.seq (.drw [] fun c r s K=>(fun z m=>dL z m n16 n0 s (r q1) fun v0 m s=>ixs n50 v0 (r q5) fun v1=>ixA n50 n1 v1 I32 fun v2=>dL z m (nat_lit 256) (nat_lit 240) s v2 fun v3 m s=>cnv .u64 (r q5) fun v4=>dL z m (nat_lit 2048) n0 s (r q1) fun v5 m s=>ixs n50 v5 (r q5) fun v6=>ixA n50 n1 v6 I34 fun v7=>dL z m (nat_lit 32768) (nat_lit 30720) s v7 fun v8 m s=>dL z m (nat_lit 65536) n0 s (r q1) fun v9 m s=>ixs n50 v9 (r q5) fun v10=>ixA n50 n1 v10 I11 fun v11=>dL z m (nat_lit 1048576) (nat_lit 983040) s v11 fun v12 m s=>xC (r q6) c r s fun v13 s=>ixA n50 n1 v13 I35 fun v14=>dS z m (nat_lit 8388608) (nat_lit 8387057) s n1 v14 v3 fun _ m s=>xC (r q6) c r s fun v16 s=>ixA n50 n1 v16 I36 fun v17=>dS z m (nat_lit 67108864) (nat_lit 67108851) s n1 v17 v4 fun _ m s=>xC (r q6) c r s fun v19 s=>ixA n50 n1 v19 I37 fun v20=>dS z m (nat_lit 536870912) (nat_lit 536870903) s n1 v20 v8 fun _ m s=>xC (r q6) c r s fun v22 s=>ixA n50 n1 v22 I38 fun v23=>dS z m (nat_lit 4294967296) (nat_lit 4294967295) s n1 v23 v12 fun _ m s=>K [] s) s.next mk0)
 (.seq (.seq (.reg [q67] fun c r s K=>xC (r q6) c r s fun v0 s=>ixA n50 n1 v0 I38 fun v1=>ld s v1 fun v2=>binK .eql v2 U0 fun v3=>K [v3] s)
 (.cond (.t q67) (.drw [] fun c r s K=>(fun z m=>xC (r q6) c r s fun v0 s=>ixA n50 n1 v0 I37 fun v1=>dL z m n16 n14 s v1 fun v2 m s=>xC (r q6) c r s fun v3 s=>ixA n50 n1 v3 (i6 n41) fun v4=>dS z m n128 n127 s n1 v4 v2 fun _ m s=>K [] s) s.next mk0)
 .skip))
 (.seq (.seq (.reg [q76] fun c r s K=>binK .eql (r q4) I0 fun v0=>K [v0] s)
 (.cond (.t q76) (.exit n3)
 .skip))
 (.seq (.reg [q7] fun c r s K=>ld s (r q1) fun v0=>binK .sub (r q4) I1 fun v1=>ixs n50 v0 v1 fun v2=>K [v2] s)
 (.seq (.drw [q89] fun c r s K=>(fun z m=>xC (r q7) c r s fun v0 s=>ixA n50 n1 v0 I35 fun v1=>dL z m n8 n7 s v1 fun v2 m s=>xC (r q6) c r s fun v3 s=>ixA n50 n1 v3 I35 fun v4=>dL z m n128 n112 s v4 fun v5 m s=>binK .eql v2 v5 fun v6=>K [v6] s) s.next mk0)
 (.cond (.t q89) (.drw [] fun c r s K=>(fun z m=>xC (r q6) c r s fun v0 s=>ixA n50 n1 v0 I36 fun v1=>dL z m n32 n28 s v1 fun v2 m s=>xC (r q7) c r s fun v3 s=>ixA n50 n1 v3 I36 fun v4=>dL z m (nat_lit 512) (nat_lit 448) s v4 fun v5 m s=>binK .sub v2 v5 fun v6=>binK .sub v6 U1 fun v7=>xC (r q7) c r s fun v8 s=>ixA n50 n1 v8 I39 fun v9=>dS z m (nat_lit 16384) (nat_lit 13309) s n1 v9 U1 fun _ m s=>xC (r q7) c r s fun v11 s=>ixA n50 n1 v11 (i6 n40) fun v12=>dS z m (nat_lit 131072) (nat_lit 131071) s n1 v12 v7 fun _ m s=>K [] s) s.next mk0)
 (.drw [] fun c r s K=>(fun z m=>xC (r q6) c r s fun v0 s=>ixA n50 n1 v0 I35 fun v1=>dL z m n16 n14 s v1 fun v2 m s=>xC (r q7) c r s fun v3 s=>ixA n50 n1 v3 I35 fun v4=>dL z m (nat_lit 256) (nat_lit 224) s v4 fun v5 m s=>binK .sub v2 v5 fun v6=>binK .sub v6 U1 fun v7=>xC (r q7) c r s fun v8 s=>ixA n50 n1 v8 (i6 n40) fun v9=>dS z m (nat_lit 8192) (nat_lit 8191) s n1 v9 v7 fun _ m s=>K [] s) s.next mk0))))))))))
 (.reg [q26] fun c r s K=>binK .add (r q26) I1 fun v0=>K [v0] s))))))))))),[],[q0],[q8,q9,q10,q11,q15,q16,q17,q18,q19,q20,q21,q22,q23,q28,q29,q30,q31,q32,q33,q34,q35,q36,q37,q38,q39,q40,q41,q42,q43,q44,q45,q46,q47,q48,q49,q50,q51,q52,q53,q54,q55,q56,q57,q58,q59,q60,q61,q62,q63,q64,q65,q66,q68,q69,q70,q71,q72,q73,q74,q75,q77,q78,q79,q80,q81,q82,q83,q84,q85,q86,q87,q88,q90,q91,q92,q93,q94,q95,q96,q97,q98,q99,q100,q101,q102,q103,q104,q105,q106,q107,q108,q109,q110,q111,q112,q113,q114,q115,q116,q117,q118,q119]⟩
noncomputable def cf35:HF:=⟨
(.seq (.reg [q4] fun c r s K=>lnS (r q0) fun v0=>K [v0] s)
 (.reg [] fun c r s K=>cnv .u64 (r q4) fun v0=>c n57 [v0] s fun v1 s=>c n56 [(r q0),I0,(r q4),v1,(r q1)] s fun v2 s=>K [] s)),[],[q0,q1],[q5,q6,q7,q8,q9,q10,q11,q12,q13]⟩
end Go.Proofs.YtkneccbdfpnnlaaGreatDoor.Ev
