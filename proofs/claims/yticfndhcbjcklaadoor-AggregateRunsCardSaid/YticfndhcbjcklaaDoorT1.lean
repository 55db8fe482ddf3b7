/- Compiled functions of the translated program, and that each is what the compiler makes of it; no conditions. -/
import Derived.Test.YticfndhcbjcklaaDoorEvC
import Derived.KernelRfl
namespace Go.Proofs.YticfndhcbjcklaaDoor.Ev
set_option maxRecDepth 100000
set_option linter.unusedVariables false
/- attestor/attestorlaw32.AggregateRuns -/
noncomputable def cf5 : HF := ⟨
(.seq (.reg [q4] fun c r s K => K [ff] s)
 (.seq (.reg [q0] fun c r s K => c n6 [(r q0), I6] s fun v0 s => K [v0] s)
 (.seq (.seq (.reg [q5] fun c r s K => K [I0] s)
 (.block n0 (.loop (.seq (.seq (.reg [q30] fun c r s K => lnS (r q0) fun v0 => binK .lss (r q5) v0 fun v1 => K [v1] s)
 (.cond (.t q30) .skip
 (.exit n0)))
 (.seq (.block n1 (.seq (.drw [q50] fun c r s K => (fun z m => ixs n5 (r q0) (r q5) fun v0 => dN z m n8 n7 s n5 v0 fun v1 m s => dw3 m n16 n15 s (fun s q => c n18 [v1] s q) fun v2 m s => nott v2 fun v3 => jnD false v3 (fun jj => jj (r q0) m s) m s fun v4 m s => jnD false v3 (fun jj => jj (r q5) m s) m s fun v5 m s => jnD false v3 (fun jj => ixs n5 v4 v5 fun v => jj v m s) m s fun v6 m s => jnD false v3 (fun jj => fad n0 v6 fun v => jj v m s) m s fun v7 m s => jnD false v3 (fun jj => dL z m (nat_lit 2048) (nat_lit 2047) s v7 jj) m s fun v8 m s => jnD false v3 (fun jj => jj (r q0) m s) m s fun v9 m s => jnD false v3 (fun jj => ixs n5 v9 I0 fun v => jj v m s) m s fun v10 m s => jnD false v3 (fun jj => fad n0 v10 fun v => jj v m s) m s fun v11 m s => jnD false v3 (fun jj => dL z m (nat_lit 32768) (nat_lit 28799) s v11 jj) m s fun v12 m s => jnD false v3 (fun jj => binK .neq v8 v12 fun v => jj v m s) m s fun v13 m s => pck v3 tt v13 fun v14 => K [v14] s) s.next mk0)
 (.cond (.t q50) (.seq (.reg [q4] fun c r s K => c n11 [] s fun v0 s => K [v0] s)
 .ret)
 .skip)))
 (.reg [q5] fun c r s K => binK .add (r q5) I1 fun v0 => K [v0] s))))))
 (.seq (.reg [q6, q7] fun c r s K => c n19 [(r q0), (r q1)] s fun v0 s => xE n0 v0 c r s fun v1 s => xE n1 v0 c r s fun v2 s => K [v1, v2] s)
 (.seq (.reg [q8, q9] fun c r s K => c n12 [(r q0)] s fun v0 s => xE n0 v0 c r s fun v1 s => xE n1 v0 c r s fun v2 s => alc s [zi, zi, zi, zi, zn] fun v3 s => sto s n5 v3 v1 fun s => K [v3, v2] s)
 (.seq (.reg [q10, q11, q12] fun c r s K => c n8 [(r q0), (r q6), (r q7)] s fun v0 s => xE n0 v0 c r s fun v1 s => xE n1 v0 c r s fun v2 s => xE n2 v0 c r s fun v3 s => K [v1, v2, v3] s)
 (.seq (.seq (.reg [q73] fun c r s K => lnS (r q0) fun v0 => binK .eql v0 I0 fun v1 => K [v1] s)
 (.cond (.t q73) (.seq (.reg [q4] fun c r s K => binK .eql (r q9) I1 fun v0 => mt v0 (r q12) s fun v1 s => jt v0 (binK .eql v1 I1) s fun v2 s => pck v0 v2 ff fun v3 => jn true v3 (fun j => c n11 [] s j) s fun v4 s => pck v3 v4 ff fun v5 => K [v5] s)
 .ret)
 .skip))
 (.seq (.seq (.reg [q84] fun c r s K => binK .eql (r q9) I9 fun v0 => K [v0] s)
 (.cond (.t q84) (.seq (.reg [q4] fun c r s K => c n11 [] s fun v0 s => K [v0] s)
 .ret)
 .skip))
 (.seq (.seq (.reg [q96] fun c r s K => binK .neq (r q9) I0 fun v0 => mf v0 (r q12) s fun v1 s => jf v0 (binK .neq v1 I0) s fun v2 s => pck v0 tt v2 fun v3 => jf v3 (lN s n5 (r q8)) s fun v4 s => jn false v3 (fun j => c n18 [v4] s j) s fun v5 s => jf v3 (nott v5) s fun v6 s => pck v3 tt v6 fun v7 => K [v7] s)
 (.cond (.t q96) (.seq (.reg [q4] fun c r s K => K [ff] s)
 .ret)
 .skip))
 (.seq (.reg [q13, q14, q9] fun c r s K => lN s n5 (r q8) fun v0 => c n20 [v0, (r q10), (r q11)] s fun v1 s => xE n0 v1 c r s fun v2 s => xE n1 v1 c r s fun v3 s => xE n2 v1 c r s fun v4 s => K [v2, v3, v4] s)
 (.seq (.seq (.reg [q113] fun c r s K => binK .neq (r q9) I0 fun v0 => mf v0 (r q13) s fun v1 s => jf v0 (lnS v1) s fun v2 s => jf v0 (fad n1 (r q8)) s fun v3 s => jf v0 (ld s v3) s fun v4 s => jf v0 (binK .neq v2 v4) s fun v5 s => pck v0 tt v5 fun v6 => K [v6] s)
 (.cond (.t q113) (.seq (.reg [q4] fun c r s K => K [ff] s)
 .ret)
 .skip))
 (.seq (.reg [q15] fun c r s K => K [tt] s)
 (.seq (.drw [q16, q17, q18] fun c r s K => (fun z m => fad n2 (r q8) fun v0 => dL z m n2 n1 s v0 fun v1 m s => fad n2 (r q8) fun v2 => dL z m n8 n4 s v2 fun v3 m s => fad n3 (r q8) fun v4 => dL z m n32 n16 s v4 fun v5 m s => binK .add v3 v5 fun v6 => K [I0, v1, v6] s) s.next mk0)
 (.seq (.seq (.reg [q19] fun c r s K => K [I0] s)
 (.block n2 (.loop (.seq (.seq (.reg [q124] fun c r s K => lnS (r q0) fun v0 => binK .lss (r q19) v0 fun v1 => K [v1] s)
 (.cond (.t q124) .skip
 (.exit n2)))
 (.seq (.block n3 (.seq (.drw [q20, q21, q22] fun c r s K => (fun z m => ixs n5 (r q0) (r q19) fun v0 => dN z m n8 n7 s n5 v0 fun v1 m s => ixs n1 (r q6) (r q19) fun v2 => dL z m n128 n112 s v2 fun v3 m s => ixs n1 (r q7) (r q19) fun v4 => dL z m (nat_lit 2048) (nat_lit 1792) s v4 fun v5 m s => dw3 m (nat_lit 4096) (nat_lit 4095) s (fun s q => c n20 [v1, v3, v5] s q) fun v6 m s => xE n0 v6 c r s fun v7 s => xE n1 v6 c r s fun v8 s => xE n2 v6 c r s fun v9 s => K [v7, v8, v9] s) s.next mk0)
 (.seq (.seq (.reg [q155] fun c r s K => binK .neq (r q22) I0 fun v0 => mf v0 (r q20) s fun v1 s => jf v0 (lnS v1) s fun v2 s => mf v0 (r q0) s fun v3 s => mf v0 (r q19) s fun v4 s => jf v0 (ixs n5 v3 v4) s fun v5 s => jf v0 (fad n1 v5) s fun v6 s => jf v0 (ld s v6) s fun v7 s => jf v0 (binK .neq v2 v7) s fun v8 s => pck v0 tt v8 fun v9 => K [v9] s)
 (.cond (.t q155) (.seq (.reg [q4] fun c r s K => K [ff] s)
 .ret)
 .skip))
 (.seq (.reg [q15] fun c r s K => mt (r q15) (r q21) s fun v0 s => pck (r q15) v0 ff fun v1 => K [v1] s)
 (.seq (.drw [q23, q24] fun c r s K => (fun z m => ixs n5 (r q0) (r q19) fun v0 => fad n2 v0 fun v1 => dL z m n16 n15 s v1 fun v2 m s => ixs n5 (r q0) (r q19) fun v3 => fad n3 v3 fun v4 => dL z m (nat_lit 512) (nat_lit 480) s v4 fun v5 m s => K [v2, v5] s) s.next mk0)
 (.seq (.seq (.drw [q245] fun c r s K => (fun z m => binK .add (r q16) (r q23) fun v0 => lnS (r q13) fun v1 => binK .gtr v0 v1 fun v2 => jnD false v2 (fun jj => jj (r q17) m s) m s fun v3 m s => jnD false v2 (fun jj => jj (r q24) m s) m s fun v4 m s => jnD false v2 (fun jj => binK .add v3 v4 fun v => jj v m s) m s fun v5 m s => jnD false v2 (fun jj => jj (r q13) m s) m s fun v6 m s => jnD false v2 (fun jj => lnS v6 fun v => jj v m s) m s fun v7 m s => jnD false v2 (fun jj => binK .gtr v5 v7 fun v => jj v m s) m s fun v8 m s => pck v2 tt v8 fun v9 => jnD false v9 (fun jj => jj (r q18) m s) m s fun v10 m s => jnD false v9 (fun jj => jj (r q20) m s) m s fun v11 m s => jnD false v9 (fun jj => lnS v11 fun v => jj v m s) m s fun v12 m s => jnD false v9 (fun jj => binK .add v10 v12 fun v => jj v m s) m s fun v13 m s => jnD false v9 (fun jj => jj (r q23) m s) m s fun v14 m s => jnD false v9 (fun jj => binK .sub v13 v14 fun v => jj v m s) m s fun v15 m s => jnD false v9 (fun jj => jj (r q24) m s) m s fun v16 m s => jnD false v9 (fun jj => binK .sub v15 v16 fun v => jj v m s) m s fun v17 m s => jnD false v9 (fun jj => jj (r q13) m s) m s fun v18 m s => jnD false v9 (fun jj => lnS v18 fun v => jj v m s) m s fun v19 m s => jnD false v9 (fun jj => binK .gtr v17 v19 fun v => jj v m s) m s fun v20 m s => pck v9 tt v20 fun v21 => jnD false v21 (fun jj => jj (r q20) m s) m s fun v22 m s => jnD false v21 (fun jj => jj (r q23) m s) m s fun v23 m s => jnD false v21 (fun jj => h_op3_sliceS n1 (.c v22) none (some (.c v23)) none c r s fun v s => jj v m s) m s fun v24 m s => jnD false v21 (fun jj => jj (r q13) m s) m s fun v25 m s => jnD false v21 (fun jj => jj (r q16) m s) m s fun v26 m s => jnD false v21 (fun jj => jj (r q16) m s) m s fun v27 m s => jnD false v21 (fun jj => jj (r q23) m s) m s fun v28 m s => jnD false v21 (fun jj => binK .add v27 v28 fun v => jj v m s) m s fun v29 m s => jnD false v21 (fun jj => h_op3_sliceS n1 (.c v25) (some (.c v26)) (some (.c v29)) none c r s fun v s => jj v m s) m s fun v30 m s => jnD false v21 (fun jj => dw3 m (nat_lit 137438953472) (nat_lit 137438953471) s (fun s q => c n21 [v24, v30] s q) jj) m s fun v31 m s => jnD false v21 (fun jj => nott v31 fun v => jj v m s) m s fun v32 m s => pck v21 tt v32 fun v33 => jnD false v33 (fun jj => jj (r q20) m s) m s fun v34 m s => jnD false v33 (fun jj => jj (r q23) m s) m s fun v35 m s => jnD false v33 (fun jj => jj (r q23) m s) m s fun v36 m s => jnD false v33 (fun jj => jj (r q24) m s) m s fun v37 m s => jnD false v33 (fun jj => binK .add v36 v37 fun v => jj v m s) m s fun v38 m s => jnD false v33 (fun jj => h_op3_sliceS n1 (.c v34) (some (.c v35)) (some (.c v38)) none c r s fun v s => jj v m s) m s fun v39 m s => jnD false v33 (fun jj => jj (r q13) m s) m s fun v40 m s => jnD false v33 (fun jj => jj (r q17) m s) m s fun v41 m s => jnD false v33 (fun jj => jj (r q17) m s) m s fun v42 m s => jnD false v33 (fun jj => jj (r q24) m s) m s fun v43 m s => jnD false v33 (fun jj => binK .add v42 v43 fun v => jj v m s) m s fun v44 m s => jnD false v33 (fun jj => h_op3_sliceS n1 (.c v40) (some (.c v41)) (some (.c v44)) none c r s fun v s => jj v m s) m s fun v45 m s => jnD false v33 (fun jj => dw3 m (nat_lit 9007199254740992) (nat_lit 9007199254740991) s (fun s q => c n21 [v39, v45] s q) jj) m s fun v46 m s => jnD false v33 (fun jj => nott v46 fun v => jj v m s) m s fun v47 m s => pck v33 tt v47 fun v48 => jnD false v48 (fun jj => jj (r q20) m s) m s fun v49 m s => jnD false v48 (fun jj => jj (r q23) m s) m s fun v50 m s => jnD false v48 (fun jj => jj (r q24) m s) m s fun v51 m s => jnD false v48 (fun jj => binK .add v50 v51 fun v => jj v m s) m s fun v52 m s => jnD false v48 (fun jj => h_op3_sliceS n1 (.c v49) (some (.c v52)) none none c r s fun v s => jj v m s) m s fun v53 m s => jnD false v48 (fun jj => jj (r q13) m s) m s fun v54 m s => jnD false v48 (fun jj => jj (r q18) m s) m s fun v55 m s => jnD false v48 (fun jj => jj (r q18) m s) m s fun v56 m s => jnD false v48 (fun jj => jj (r q20) m s) m s fun v57 m s => jnD false v48 (fun jj => lnS v57 fun v => jj v m s) m s fun v58 m s => jnD false v48 (fun jj => binK .add v56 v58 fun v => jj v m s) m s fun v59 m s => jnD false v48 (fun jj => jj (r q23) m s) m s fun v60 m s => jnD false v48 (fun jj => binK .sub v59 v60 fun v => jj v m s) m s fun v61 m s => jnD false v48 (fun jj => jj (r q24) m s) m s fun v62 m s => jnD false v48 (fun jj => binK .sub v61 v62 fun v => jj v m s) m s fun v63 m s => jnD false v48 (fun jj => h_op3_sliceS n1 (.c v54) (some (.c v55)) (some (.c v63)) none c r s fun v s => jj v m s) m s fun v64 m s => jnD false v48 (fun jj => dw3 m (nat_lit 9444732965739290427392) (nat_lit 9444732965739290427391) s (fun s q => c n21 [v53, v64] s q) jj) m s fun v65 m s => jnD false v48 (fun jj => nott v65 fun v => jj v m s) m s fun v66 m s => pck v48 tt v66 fun v67 => K [v67] s) s.next mk0)
 (.cond (.t q245) (.seq (.reg [q4] fun c r s K => K [ff] s)
 .ret)
 .skip))
 (.reg [q16, q17, q18] fun c r s K => binK .add (r q16) (r q23) fun v0 => binK .add (r q17) (r q24) fun v1 => lnS (r q20) fun v2 => binK .add (r q18) v2 fun v3 => binK .sub v3 (r q23) fun v4 => binK .sub v4 (r q24) fun v5 => K [v0, v1, v5] s)))))))
 (.reg [q19] fun c r s K => binK .add (r q19) I1 fun v0 => K [v0] s))))))
 (.seq (.reg [q4] fun c r s K => h_op4_eqv .bool false (.c (r q14)) (.c (r q15)) c r s fun v0 s => mt v0 (r q16) s fun v1 s => jt v0 (fad n2 (r q8)) s fun v2 s => jt v0 (ld s v2) s fun v3 s => jt v0 (binK .eql v1 v3) s fun v4 s => pck v0 v4 ff fun v5 => jn true v5 (fun j => c n11 [] s j) s fun v6 s => pck v5 v6 ff fun v7 => K [v7] s)
 .ret))))))))))))))), [(.tmp q4)], [q0, q1], [q25, q26, q27, q28, q29, q33, q34, q35, q36, q37, q38, q39, q40, q41, q42, q43, q44, q45, q46, q47, q48, q49, q51, q31, q32, q53, q54, q55, q52, q56, q57, q59, q60, q58, q61, q62, q64, q65, q66, q67, q63, q68, q69, q70, q71, q72, q74, q75, q76, q77, q78, q79, q80, q81, q82, q83, q85, q86, q87, q88, q89, q90, q91, q92, q93, q94, q95, q98, q99, q100, q101, q97, q102, q103, q104, q105, q106, q107, q108, q109, q110, q111, q112, q114, q115, q116, q117, q118, q119, q120, q121, q122, q123, q128, q129, q130, q131, q132, q133, q134, q135, q136, q137, q138, q139, q140, q127, q141, q142, q143, q144, q145, q146, q147, q148, q149, q150, q151, q152, q153, q154, q156, q157, q158, q159, q160, q161, q162, q163, q164, q165, q166, q167, q168, q169, q170, q171, q172, q173, q174, q175, q176, q177, q178, q179, q180, q181, q182, q183, q184, q185, q186, q187, q188, q189, q190, q191, q192, q193, q194, q195, q196, q197, q198, q199, q200, q201, q202, q203, q204, q205, q206, q207, q208, q209, q210, q211, q212, q213, q214, q215, q216, q217, q218, q219, q220, q221, q222, q223, q224, q225, q226, q227, q228, q229, q230, q231, q232, q233, q234, q235, q236, q237, q238, q239, q240, q241, q242, q243, q244, q246, q247, q248, q249, q250, q251, q252, q253, q254, q255, (.r q127), (.l q128), (.r q128), (.l q129), q125, q126, (.r q129), (.l q130), (.r q130), (.l q131), (.r q131), (.l q132), (.r q132), (.l q133), (.r q133), (.l q134), (.r q134), (.l q135)]⟩
/- attestor/gates.Run -/
noncomputable def cf20 : HF := ⟨
(.seq (.reg [q3, q6, q7, q8] fun c r s K => bxx s (r q0) fun v0 s => K [v0, (.sc zn), ff, I0] s)
 (.seq (.seq (.reg [q49] fun c r s K => lN s n5 (r q3) fun v0 => c n18 [v0] s fun v1 s => nott v1 fun v2 => mf v2 (r q1) s fun v3 s => jf v2 (lnS v3) s fun v4 s => jf v2 (fad n2 (r q3)) s fun v5 s => jf v2 (ld s v5) s fun v6 s => jf v2 (binK .neq v4 v6) s fun v7 s => pck v2 tt v7 fun v8 => mf v8 (r q2) s fun v9 s => jf v8 (lnS v9) s fun v10 s => jf v8 (fad n3 (r q3)) s fun v11 s => jf v8 (ld s v11) s fun v12 s => jf v8 (binK .neq v10 v12) s fun v13 s => pck v8 tt v13 fun v14 => jf v14 (fad n0 (r q3)) s fun v15 s => jf v14 (ld s v15) s fun v16 s => mf v14 (r q1) s fun v17 s => jn false v14 (fun j => c n36 [v16, v17] s j) s fun v18 s => jf v14 (nott v18) s fun v19 s => pck v14 tt v19 fun v20 => jf v20 (fad n0 (r q3)) s fun v21 s => jf v20 (ld s v21) s fun v22 s => mf v20 (r q2) s fun v23 s => jn false v20 (fun j => c n36 [v22, v23] s j) s fun v24 s => jf v20 (nott v24) s fun v25 s => pck v20 tt v25 fun v26 => K [v26] s)
 (.cond (.t q49) (.seq (.reg [q6, q7, q8] fun c r s K => K [(.sc zn), ff, I1] s)
 .ret)
 .skip))
 (.seq (.reg [q9] fun c r s K => fad n1 (r q3) fun v0 => ld s v0 fun v1 => xM n1 n8 [zu] v1 v1 c r s fun v2 s => alc s [zn] fun v3 s => sto s n1 v3 v2 fun s => K [v3] s)
 (.seq (.reg [q10] fun c r s K => fad n1 (r q3) fun v0 => ld s v0 fun v1 => xM n1 n1 [(.bool false)] v1 v1 c r s fun v2 s => alc s [zn] fun v3 s => sto s n1 v3 v2 fun s => K [v3] s)
 (.seq (.reg [] fun c r s K => ld s (r q9) fun v0 => h_op3_copy n1 (.c v0) (.c (r q1)) c r s fun v1 s => K [] s)
 (.seq (.reg [] fun c r s K => ld s (r q9) fun v0 => fad n2 (r q3) fun v1 => ld s v1 fun v2 => h_op3_sliceS n1 (.c v0) (some (.c v2)) none none c r s fun v3 s => h_op3_copy n1 (.c v3) (.c (r q2)) c r s fun v4 s => K [] s)
 (.seq (.seq (.reg [q69, q70] fun c r s K => fad n2 (r q3) fun v0 => ld s v0 fun v1 => fad n3 (r q3) fun v2 => ld s v2 fun v3 => binK .add v1 v3 fun v4 => K [v4, I0] s)
 (.block n0 (.loop (.seq (.reg [q71] fun c r s K => binK .lss (r q70) (r q69) fun v0 => K [v0] s)
 (.seq (.cond (.t q71) .skip
 (.exit n0))
 (.seq (.block n1 (.seq (.reg [q11] fun c r s K => K [(r q70)] s)
 (.reg [] fun c r s K => ld s (r q10) fun v0 => ixs n1 v0 (r q11) fun v1 => sto s n1 v1 tt fun s => K [] s)))
 (.reg [q70] fun c r s K => binK .add (r q70) I1 fun v0 => K [v0] s)))))))
 (.seq (.reg [q12] fun c r s K => h_op4_makeFunc n37 [(.c (r q10)), (.c (r q9))] c r s fun v0 s => K [v0] s)
 (.seq (.seq (.reg [q79, q80, q81] fun c r s K => fad n4 (r q3) fun v0 => ld s v0 fun v1 => lnS v1 fun v2 => K [v1, v2, I0] s)
 (.block n2 (.loop (.seq (.reg [q82] fun c r s K => binK .lss (r q81) (r q80) fun v0 => K [v0] s)
 (.seq (.cond (.t q82) .skip
 (.exit n2))
 (.seq (.block n3 (.seq (.reg [q14, q13] fun c r s K => ixs n11 (r q79) (r q81) fun v0 => lN s n11 v0 fun v1 => alc s [zb, zi, zi, zi, zi, zu, zu, zu, zu, zu, zi] fun v2 s => sto s n11 v2 v1 fun s => K [v2, (r q81)] s)
 (.block n4 (.seq (.reg [q86] fun c r s K => fad n0 (r q14) fun v0 => ld s v0 fun v1 => binK .eql v1 B3 fun v2 => K [v2] s)
 (.cond (.t q86) (.seq (.reg [q94, q95] fun c r s K => fad n0 (r q3) fun v0 => ld s v0 fun v1 => lN s n11 (r q14) fun v2 => ld s (r q9) fun v3 => c n38 [v1, v2, v3] s fun v4 s => K [v4, I0] s)
 (.block n5 (.loop (.seq (.reg [q96] fun c r s K => binK .lss (r q95) I4 fun v0 => K [v0] s)
 (.seq (.cond (.t q96) .skip
 (.exit n5))
 (.seq (.block n6 (.seq (.reg [q15, q16] fun c r s K => h_op2_idxV n4 n1 false (.c (r q94)) (.c (r q95)) c r s fun v0 s => K [(r q95), v0] s)
 (.reg [] fun c r s K => fad n4 (r q3) fun v0 => ld s v0 fun v1 => binK .add (r q13) I1 fun v2 => ixs n11 v1 v2 fun v3 => fad n1 v3 fun v4 => ixA n4 n1 v4 (r q15) fun v5 => ld s v5 fun v6 => h_op4_callV (.c (r q12)) [(.c v6), (.c (r q16))] c r s fun v7 s => K [] s)))
 (.reg [q95] fun c r s K => binK .add (r q95) I1 fun v0 => K [v0] s)))))))
 (.seq (.reg [q112] fun c r s K => fad n8 (r q14) fun v0 => ld s v0 fun v1 => binK .neq v1 U0 fun v2 => jt v2 (ld s (r q10)) s fun v3 s => jt v2 (fad n1 (r q14)) s fun v4 s => jt v2 (ixA n4 n1 v4 I2) s fun v5 s => jt v2 (ld s v5) s fun v6 s => jt v2 (ixs n1 v3 v6) s fun v7 s => jt v2 (ld s v7) s fun v8 s => jt v2 (nott v8) s fun v9 s => pck v2 v9 ff fun v10 => K [v10] s)
 (.cond (.t q112) (.drw [] fun c r s K => (fun z m => fad n1 (r q14) fun v0 => ixA n4 n1 v0 I2 fun v1 => dL z m n8 n6 s v1 fun v2 m s => fad n0 (r q3) fun v3 => dL z m n32 n16 s v3 fun v4 m s => fad n0 (r q3) fun v5 => dL z m n128 n64 s v5 fun v6 m s => fad n0 (r q3) fun v7 => dL z m (nat_lit 512) (nat_lit 256) s v7 fun v8 m s => dN z m (nat_lit 1024) n0 s n11 (r q14) fun v9 m s => dL z m (nat_lit 2048) n0 s (r q9) fun v10 m s => dw3 m (nat_lit 4096) (nat_lit 3840) s (fun s q => c n41 [v8, v9, v10] s q) fun v11 m s => fad n8 (r q14) fun v12 => dL z m (nat_lit 16384) (nat_lit 8192) s v12 fun v13 m s => dw3 m (nat_lit 32768) (nat_lit 32704) s (fun s q => c n40 [v6, v11, v13] s q) fun v14 m s => dw3 m (nat_lit 65536) (nat_lit 65520) s (fun s q => c n39 [v4, v14] s q) fun v15 m s => dw3 m (nat_lit 131072) (nat_lit 131071) s (fun s q => h_op4_callV (.c (r q12)) [(.c v2), (.c v15)] c r s q) fun v16 m s => K [] s) s.next mk0)
 .skip)))))))
 (.reg [q81] fun c r s K => binK .add (r q81) I1 fun v0 => K [v0] s)))))))
 (.seq (.reg [q17] fun c r s K => K [tt] s)
 (.seq (.seq (.reg [q146, q147] fun c r s K => fad n4 (r q3) fun v0 => ld s v0 fun v1 => lnS v1 fun v2 => K [v2, I0] s)
 (.block n7 (.loop (.seq (.reg [q148] fun c r s K => binK .lss (r q147) (r q146) fun v0 => K [v0] s)
 (.seq (.cond (.t q148) .skip
 (.exit n7))
 (.seq (.block n8 (.seq (.reg [q18] fun c r s K => K [(r q147)] s)
 (.reg [q17] fun c r s K => jt (r q17) (lN s n5 (r q3)) s fun v0 s => jt (r q17) (ld s (r q9)) s fun v1 s => mt (r q17) (r q18) s fun v2 s => jn true (r q17) (fun j => c n42 [v0, v1, v2] s j) s fun v3 s => pck (r q17) v3 ff fun v4 => K [v4] s)))
 (.reg [q147] fun c r s K => binK .add (r q147) I1 fun v0 => K [v0] s)))))))
 (.seq (.reg [q6, q7, q8] fun c r s K => ld s (r q9) fun v0 => K [v0, (r q17), I0] s)
 .ret)))))))))))), [(.tmp q6), (.tmp q7), (.tmp q8)], [q0, q1, q2], [q19, q20, q21, q22, q23, q24, q25, q26, q27, q28, q29, q30, q31, q32, q33, q34, q35, q36, q37, q38, q39, q40, q41, q42, q43, q44, q45, q46, q47, q48, q50, q51, q52, q53, q54, q55, q56, q57, q58, q59, q60, q61, q62, q63, q64, q65, q66, q67, q68, q72, q73, q74, q75, q76, q77, q78, q83, q84, q85, q87, q88, q89, q90, q91, q92, q93, q97, q98, q99, q100, q101, q102, q103, q104, q105, q106, q107, q108, q109, q110, q111, q113, q114, q115, q116, q117, q118, q119, q120, q121, q122, q123, q124, q125, q126, q127, q128, q129, q130, q131, q132, q133, q134, q135, q136, q137, q138, q139, q140, q141, q142, q143, q144, q145, q149, q150, q151, q152, q153, q154, q155, q156, q157, q158, q159]⟩
/- attestor/gates.holds -/
noncomputable def cf42 : HF := ⟨
(.seq (.reg [q3, q6] fun c r s K => bxx s (r q0) fun v0 s => K [v0, ff] s)
 (.seq (.reg [q7] fun c r s K => fad n4 (r q3) fun v0 => ld s v0 fun v1 => ixs n11 v1 (r q2) fun v2 => lN s n11 v2 fun v3 => alc s [zb, zi, zi, zi, zi, zu, zu, zu, zu, zu, zi] fun v4 s => sto s n11 v4 v3 fun s => K [v4] s)
 (.seq (.seq (.reg [q16] fun c r s K => fad n0 (r q7) fun v0 => ld s v0 fun v1 => K [v1] s)
 (.block n0 (.seq (.reg [q17] fun c r s K => binK .eql (r q16) B1 fun v0 => K [v0] s)
 (.cond (.t q17) (.seq (.drw [q6] fun c r s K => (fun z m => fad n0 (r q3) fun v0 => dL z m n2 n1 s v0 fun v1 m s => fad n0 (r q3) fun v2 => dL z m n8 n4 s v2 fun v3 m s => dN z m n16 n0 s n11 (r q7) fun v4 m s => dw3 m n64 n60 s (fun s q => c n41 [v3, v4, (r q1)] s q) fun v5 m s => fad n0 (r q3) fun v6 => dL z m (nat_lit 256) n128 s v6 fun v7 m s => fad n8 (r q7) fun v8 => dL z m (nat_lit 1024) (nat_lit 512) s v8 fun v9 m s => dN z m (nat_lit 2048) n0 s n11 (r q7) fun v10 m s => dw3 m (nat_lit 8192) (nat_lit 6268) s (fun s q => c n59 [v10, (r q1), I2] s q) fun v11 m s => dw3 m (nat_lit 16384) (nat_lit 16380) s (fun s q => c n57 [v7, v9, v11] s q) fun v12 m s => dw3 m (nat_lit 32768) (nat_lit 32767) s (fun s q => c n60 [v1, v5, v12] s q) fun v13 m s => binK .eql v13 U0 fun v14 => K [v14] s) s.next mk0)
 .ret)
 (.seq (.reg [q36] fun c r s K => binK .eql (r q16) B2 fun v0 => K [v0] s)
 (.cond (.t q36) (.seq (.reg [q6] fun c r s K => fad n1 (r q7) fun v0 => ixA n4 n1 v0 I0 fun v1 => ld s v1 fun v2 => ixs n1 (r q1) v2 fun v3 => ld s v3 fun v4 => binK .lss v4 U16 fun v5 => K [v5] s)
 .ret)
 (.seq (.reg [q45] fun c r s K => binK .eql (r q16) B3 fun v0 => K [v0] s)
 (.cond (.t q45) (.seq (.reg [q51, q52] fun c r s K => fad n0 (r q3) fun v0 => ld s v0 fun v1 => lN s n11 (r q7) fun v2 => c n38 [v1, v2, (r q1)] s fun v3 s => K [v3, I0] s)
 (.block n1 (.loop (.seq (.reg [q53] fun c r s K => binK .lss (r q52) I4 fun v0 => K [v0] s)
 (.seq (.cond (.t q53) .skip
 (.exit n1))
 (.seq (.block n2 (.seq (.reg [q8, q9] fun c r s K => h_op2_idxV n4 n1 false (.c (r q51)) (.c (r q52)) c r s fun v0 s => K [(r q52), v0] s)
 (.seq (.reg [q69] fun c r s K => fad n4 (r q3) fun v0 => ld s v0 fun v1 => binK .add (r q2) I1 fun v2 => ixs n11 v1 v2 fun v3 => fad n1 v3 fun v4 => ixA n4 n1 v4 (r q8) fun v5 => ld s v5 fun v6 => ixs n1 (r q1) v6 fun v7 => ld s v7 fun v8 => binK .neq v8 (r q9) fun v9 => K [v9] s)
 (.cond (.t q69) (.seq (.reg [q6] fun c r s K => K [ff] s)
 .ret)
 .skip))))
 (.reg [q52] fun c r s K => binK .add (r q52) I1 fun v0 => K [v0] s)))))))
 .skip))))))))
 (.seq (.reg [q6] fun c r s K => K [tt] s)
 .ret)))), [(.tmp q6)], [q0, q1, q2], [q10, q11, q12, q13, q14, q15, q18, q19, q20, q21, q22, q23, q24, q25, q26, q27, q28, q29, q30, q31, q32, q33, q34, q35, q37, q38, q39, q40, q41, q42, q43, q44, q46, q47, q48, q49, q50, q54, q55, q56, q57, q58, q59, q60, q61, q62, q63, q64, q65, q66, q67, q68, q70]⟩
/- attestor/field.Add -/
noncomputable def cf60 : HF := ⟨
(.seq (.reg [q6] fun c r s K => K [U0] s)
 (.seq (.reg [q7] fun c r s K => c n54 [(r q0)] s fun v0 s => K [v0] s)
 (.seq (.seq (.reg [q12] fun c r s K => binK .eql (r q7) U0 fun v0 => K [v0] s)
 (.cond (.t q12) (.seq (.reg [q6] fun c r s K => K [U0] s)
 .ret)
 .skip))
 (.seq (.drw [q8] fun c r s K => (fun z m => binK .rem (r q1) (r q7) fun v0 => binK .rem (r q2) (r q7) fun v1 => binK .add v0 v1 fun v2 => K [v2] s) s.next mk0)
 (.seq (.seq (.reg [q22] fun c r s K => binK .geq (r q8) (r q7) fun v0 => K [v0] s)
 (.cond (.t q22) (.reg [q8] fun c r s K => binK .sub (r q8) (r q7) fun v0 => K [v0] s)
 .skip))
 (.seq (.reg [q6] fun c r s K => K [(r q8)] s)
 .ret)))))), [(.tmp q6)], [q0, q1, q2], [q9, q10, q11, q13, q14, q15, q16, q17, q18, q19, q20, q21, q23, q24, q25, q26]⟩
/- attestor/field.Mul -/
noncomputable def cf57 : HF := ⟨
(.seq (.reg [q6] fun c r s K => K [U0] s)
 (.seq (.reg [q7] fun c r s K => c n54 [(r q0)] s fun v0 s => K [v0] s)
 (.seq (.seq (.reg [q11] fun c r s K => binK .eql (r q7) U0 fun v0 => K [v0] s)
 (.cond (.t q11) (.seq (.reg [q6] fun c r s K => K [U0] s)
 .ret)
 .skip))
 (.seq (.drw [q6] fun c r s K => (fun z m => binK .rem (r q1) (r q7) fun v0 => binK .rem (r q2) (r q7) fun v1 => binK .mul v0 v1 fun v2 => binK .rem v2 (r q7) fun v3 => K [v3] s) s.next mk0)
 .ret)))), [(.tmp q6)], [q0, q1, q2], [q8, q9, q10, q12, q13, q14, q15, q16, q17, q18, q19, q20]⟩
/- attestor/gates.wire -/
noncomputable def cf59 : HF := ⟨
(.seq (.reg [q3, q6] fun c r s K => bxx s (r q0) fun v0 s => K [v0, U0] s)
 (.seq (.seq (.reg [q11] fun c r s K => lN s n11 (r q3) fun v0 => c n51 [v0] s fun v1 s => h_op2_idxV n4 n1 false (.c v1) (.c (r q2)) c r s fun v2 s => nott v2 fun v3 => K [v3] s)
 (.cond (.t q11) (.seq (.reg [q6] fun c r s K => K [U0] s)
 .ret)
 .skip))
 (.seq (.reg [q6] fun c r s K => fad n1 (r q3) fun v0 => ixA n4 n1 v0 (r q2) fun v1 => ld s v1 fun v2 => ixs n1 (r q1) v2 fun v3 => ld s v3 fun v4 => K [v4] s)
 .ret))), [(.tmp q6)], [q0, q1, q2], [q7, q8, q9, q10, q12, q13, q14, q15, q16, q17, q18]⟩
/- attestor/field.Div -/
noncomputable def cf40 : HF := ⟨
(.seq (.reg [q6] fun c r s K => K [U0] s)
 (.seq (.reg [q6] fun c r s K => c n58 [(r q0), (r q2)] s fun v0 s => c n57 [(r q0), (r q1), v0] s fun v1 s => K [v1] s)
 .ret)), [(.tmp q6)], [q0, q1, q2], [q7, q8, q9, q10, q11, q12]⟩
/- attestor/field.Inv -/
noncomputable def cf58 : HF := ⟨
(.seq (.reg [q4] fun c r s K => K [U0] s)
 (.seq (.reg [q5] fun c r s K => c n54 [(r q0)] s fun v0 s => K [v0] s)
 (.seq (.seq (.reg [q20] fun c r s K => binK .eql (r q5) U0 fun v0 => mf v0 (r q1) s fun v1 s => mf v0 (r q5) s fun v2 s => jf v0 (binK .rem v1 v2) s fun v3 s => jf v0 (binK .eql v3 U0) s fun v4 s => pck v0 tt v4 fun v5 => K [v5] s)
 (.cond (.t q20) (.seq (.reg [q4] fun c r s K => K [U0] s)
 .ret)
 .skip))
 (.seq (.drw [q6, q7] fun c r s K => (fun z m => cnv .i64 (r q5) fun v0 => binK .rem (r q1) (r q5) fun v1 => cnv .i64 v1 fun v2 => K [v0, v2] s) s.next mk0)
 (.seq (.reg [q8, q9] fun c r s K => K [I0, I1] s)
 (.seq (.block n0 (.loop (.seq (.seq (.reg [q28] fun c r s K => binK .neq (r q7) I0 fun v0 => K [v0] s)
 (.cond (.t q28) .skip
 (.exit n0)))
 (.block n1 (.seq (.reg [q10] fun c r s K => binK .quo (r q6) (r q7) fun v0 => K [v0] s)
 (.seq (.reg [q6, q7] fun c r s K => binK .mul (r q10) (r q7) fun v0 => binK .sub (r q6) v0 fun v1 => K [(r q7), v1] s)
 (.reg [q8, q9] fun c r s K => binK .mul (r q10) (r q9) fun v0 => binK .sub (r q8) v0 fun v1 => K [(r q9), v1] s)))))))
 (.seq (.seq (.reg [q45] fun c r s K => binK .lss (r q8) I0 fun v0 => K [v0] s)
 (.cond (.t q45) (.reg [q8] fun c r s K => cnv .i64 (r q5) fun v0 => binK .add (r q8) v0 fun v1 => K [v1] s)
 .skip))
 (.seq (.reg [q4] fun c r s K => cnv .u64 (r q8) fun v0 => K [v0] s)
 .ret)))))))), [(.tmp q4)], [q0, q1], [q11, q12, q13, q14, q15, q16, q17, q18, q19, q21, q22, q23, q24, q25, q26, q27, q29, q30, q31, q32, q33, q34, q35, q36, q37, q38, q39, q40, q41, q42, q43, q44, q46, q47, q48, q49, q50, q51]⟩
/- attestor/gates.total -/
noncomputable def cf41 : HF := ⟨
(.seq (.reg [q4, q6] fun c r s K => bxx s (r q1) fun v0 s => K [v0, U0] s)
 (.seq (.drw [q7, q8] fun c r s K => (fun z m => dN z m n1 n0 s n11 (r q4) fun v0 m s => dw3 m n4 n3 s (fun s q => c n59 [v0, (r q2), I0] s q) fun v1 m s => dN z m n8 n0 s n11 (r q4) fun v2 m s => dw3 m n32 n31 s (fun s q => c n59 [v2, (r q2), I1] s q) fun v3 m s => K [v1, v3] s) s.next mk0)
 (.seq (.drw [q9] fun c r s K => (fun z m => fad n5 (r q4) fun v0 => dL z m n8 n4 s v0 fun v1 m s => dw3 m n32 n30 s (fun s q => c n57 [(r q0), v1, (r q7)] s q) fun v2 m s => fad n6 (r q4) fun v3 => dL z m (nat_lit 256) n128 s v3 fun v4 m s => dw3 m (nat_lit 1024) (nat_lit 1022) s (fun s q => c n57 [(r q0), v4, (r q8)] s q) fun v5 m s => dw3 m (nat_lit 2048) (nat_lit 2047) s (fun s q => c n60 [(r q0), v2, v5] s q) fun v6 m s => K [v6] s) s.next mk0)
 (.seq (.drw [q6] fun c r s K => (fun z m => fad n7 (r q4) fun v0 => dL z m n32 n16 s v0 fun v1 m s => dw3 m (nat_lit 512) (nat_lit 448) s (fun s q => c n57 [(r q0), (r q7), (r q8)] s q) fun v2 m s => dw3 m (nat_lit 1024) (nat_lit 1016) s (fun s q => c n57 [(r q0), v1, v2] s q) fun v3 m s => fad n9 (r q4) fun v4 => dL z m (nat_lit 4096) (nat_lit 2048) s v4 fun v5 m s => dw3 m (nat_lit 8192) (nat_lit 8188) s (fun s q => c n60 [(r q0), v3, v5] s q) fun v6 m s => dw3 m (nat_lit 16384) (nat_lit 16383) s (fun s q => c n60 [(r q0), (r q9), v6] s q) fun v7 m s => K [v7] s) s.next mk0)
 .ret)))), [(.tmp q6)], [q0, q1, q2], [q10, q11, q12, q13, q14, q15, q16, q17, q18, q19, q20, q21, q22, q23, q24, q25, q26, q27, q28, q29, q30, q31, q32, q33, q34, q35, q36, q37, q38, q39, q40, q41, q42]⟩
/- attestor/gates.turned -/
noncomputable def cf38 : HF := ⟨
(.seq (.reg [q4, q6] fun c r s K => bxx s (r q1) fun v0 s => alc s [zu, zu, zu, zu] fun v1 s => K [v0, v1] s)
 (.seq (.reg [q7] fun c r s K => alc s [zu, zu, zu, zu] fun v0 s => K [v0] s)
 (.seq (.seq (.reg [q9] fun c r s K => K [I0] s)
 (.block n0 (.loop (.seq (.reg [q10] fun c r s K => binK .lss (r q9) I4 fun v0 => K [v0] s)
 (.seq (.cond (.t q10) .skip
 (.exit n0))
 (.seq (.block n1 (.seq (.reg [q8] fun c r s K => K [(r q9)] s)
 (.reg [] fun c r s K => fad n1 (r q4) fun v0 => ixA n4 n1 v0 (r q8) fun v1 => ld s v1 fun v2 => ixs n1 (r q2) v2 fun v3 => ld s v3 fun v4 => ixA n4 n1 (r q7) (r q8) fun v5 => sto s n1 v5 v4 fun s => K [] s)))
 (.reg [q9] fun c r s K => binK .add (r q9) I1 fun v0 => K [v0] s)))))))
 (.seq (.reg [] fun c r s K => fad n10 (r q4) fun v0 => ld s v0 fun v1 => lN s n4 (r q7) fun v2 => c n56 [(r q0), v1, v2] s fun v3 s => sto s n4 (r q6) v3 fun s => K [] s)
 .ret)))), [(.cellN n4 q6)], [q0, q1, q2], [q11, q12, q13, q14, q15, q16, q17, q18, q19, q20, q21, q22, q23, q24, q25, q26]⟩
/- attestor/sponge.Round -/
noncomputable def cf56 : HF := ⟨
(.seq (.reg [q5, q6] fun c r s K => bxx s (r q2) fun v0 s => alc s [zu, zu, zu, zu] fun v1 s => K [v0, v1] s)
 (.seq (.seq (.reg [q13] fun c r s K => c n68 [(r q0), (r q1)] s fun v0 s => nott v0 fun v1 => K [v1] s)
 (.cond (.t q13) (.seq (.reg [] fun c r s K => h_op3_build [zu, zu, zu, zu] [] c r s fun v0 s => sto s n4 (r q6) v0 fun s => K [] s)
 .ret)
 .skip))
 (.seq (.reg [q7] fun c r s K => c n69 [(r q0)] s fun v0 s => alc s [zu, zu, (.bool false)] fun v1 s => sto s n3 v1 v0 fun s => K [v1] s)
 (.seq (.drw [q9] fun c r s K => (fun z m => dN z m n1 n0 s n3 (r q7) fun v0 m s => fad n1 (r q7) fun v1 => dL z m n8 n4 s v1 fun v2 m s => binK .mul I4 (r q1) fun v3 => cnv .u64 v3 fun v4 => dw3 m n128 n126 s (fun s q => c n71 [(r q0), v2, v4] s q) fun v5 m s => dN z m (nat_lit 256) n0 s n3 (r q7) fun v6 m s => dN z m (nat_lit 512) n0 s n4 (r q5) fun v7 m s => dw3 m (nat_lit 1024) (nat_lit 1022) s (fun s q => c n72 [v6, v7] s q) fun v8 m s => dw3 m (nat_lit 2048) (nat_lit 2047) s (fun s q => c n70 [v0, v5, v8] s q) fun v9 m s => xE n0 v9 c r s fun v10 s => xE n1 v9 c r s fun v11 s => dw1 m (nat_lit 32768) (fun q => alc s [zu, zu, zu, zu] q) fun v12 m s => dS z m (nat_lit 131072) (nat_lit 131071) s n4 v12 v11 fun _ m s => K [v12] s) s.next mk0)
 (.seq (.reg [] fun c r s K => lN s n4 (r q9) fun v0 => sto s n4 (r q6) v0 fun s => K [] s)
 .ret))))), [(.cellN n4 q6)], [q0, q1, q2], [q10, q11, q12, q14, q15, q16, q18, q19, q20, q21, q22, q23, q24, q25, q26, q27, q28, q29, q17, q30, q31, q8, q32]⟩
/- (attestor/sponge.mixer).round -/
noncomputable def cf70 : HF := ⟨
(.seq (.reg [q3, q5, q6, q7] fun c r s K => bxx s (r q0) fun v0 s => bxx s (r q2) fun v1 s => alc s [zu, zu, zu, zu] fun v2 s => K [v0, v1, U0, v2] s)
 (.seq (.seq (.reg [q10] fun c r s K => K [I0] s)
 (.block n0 (.loop (.seq (.reg [q11] fun c r s K => binK .lss (r q10) I4 fun v0 => K [v0] s)
 (.seq (.cond (.t q11) .skip
 (.exit n0))
 (.seq (.block n1 (.seq (.reg [q8] fun c r s K => K [(r q10)] s)
 (.seq (.reg [q1] fun c r s K => fad n1 (r q3) fun v0 => ld s v0 fun v1 => binK .mul (r q1) v1 fun v2 => fad n0 (r q3) fun v3 => ld s v3 fun v4 => binK .rem v2 v4 fun v5 => K [v5] s)
 (.drw [] fun c r s K => (fun z m => dN z m n2 n0 s n3 (r q3) fun v0 m s => ixA n4 n1 (r q5) (r q8) fun v1 => dL z m n16 n12 s v1 fun v2 m s => binK .add v2 (r q1) fun v3 => binK .add v3 U7 fun v4 => fad n0 (r q3) fun v5 => dL z m (nat_lit 512) (nat_lit 256) s v5 fun v6 m s => binK .rem v4 v6 fun v7 => dw3 m (nat_lit 2048) (nat_lit 2046) s (fun s q => c n79 [v0, v7] s q) fun v8 m s => ixA n4 n1 (r q5) (r q8) fun v9 => dS z m (nat_lit 8192) (nat_lit 8191) s n1 v9 v8 fun _ m s => K [] s) s.next mk0))))
 (.reg [q10] fun c r s K => binK .add (r q10) I1 fun v0 => K [v0] s)))))))
 (.seq (.reg [q9] fun c r s K => ixA n4 n1 (r q5) I0 fun v0 => ld s v0 fun v1 => ixA n4 n1 (r q5) I1 fun v2 => ld s v2 fun v3 => binK .add v1 v3 fun v4 => ixA n4 n1 (r q5) I2 fun v5 => ld s v5 fun v6 => binK .add v4 v6 fun v7 => ixA n4 n1 (r q5) I3 fun v8 => ld s v8 fun v9 => binK .add v7 v9 fun v10 => K [v10] s)
 (.seq (.drw [q6] fun c r s K => (fun z m => ixA n4 n1 (r q5) I0 fun v0 => dL z m n8 n4 s v0 fun v1 m s => binK .add (r q9) v1 fun v2 => ixA n4 n1 (r q5) I1 fun v3 => dL z m n64 n32 s v3 fun v4 m s => binK .mul U2 v4 fun v5 => binK .add v2 v5 fun v6 => fad n0 (r q3) fun v7 => dL z m (nat_lit 1024) (nat_lit 512) s v7 fun v8 m s => binK .rem v6 v8 fun v9 => ixA n4 n1 (r q5) I1 fun v10 => dL z m (nat_lit 16384) (nat_lit 8192) s v10 fun v11 m s => binK .add (r q9) v11 fun v12 => ixA n4 n1 (r q5) I2 fun v13 => dL z m (nat_lit 131072) (nat_lit 65536) s v13 fun v14 m s => binK .mul U2 v14 fun v15 => binK .add v12 v15 fun v16 => fad n0 (r q3) fun v17 => dL z m (nat_lit 2097152) (nat_lit 1048576) s v17 fun v18 m s => binK .rem v16 v18 fun v19 => ixA n4 n1 (r q5) I2 fun v20 => dL z m (nat_lit 33554432) (nat_lit 16777216) s v20 fun v21 m s => binK .add (r q9) v21 fun v22 => ixA n4 n1 (r q5) I3 fun v23 => dL z m (nat_lit 268435456) (nat_lit 134217728) s v23 fun v24 m s => binK .mul U2 v24 fun v25 => binK .add v22 v25 fun v26 => fad n0 (r q3) fun v27 => dL z m (nat_lit 4294967296) (nat_lit 2147483648) s v27 fun v28 m s => binK .rem v26 v28 fun v29 => ixA n4 n1 (r q5) I3 fun v30 => dL z m (nat_lit 68719476736) (nat_lit 34359738368) s v30 fun v31 m s => binK .add (r q9) v31 fun v32 => ixA n4 n1 (r q5) I0 fun v33 => dL z m (nat_lit 549755813888) (nat_lit 274877906944) s v33 fun v34 m s => binK .mul U2 v34 fun v35 => binK .add v32 v35 fun v36 => fad n0 (r q3) fun v37 => dL z m (nat_lit 8796093022208) (nat_lit 4398046511104) s v37 fun v38 m s => binK .rem v36 v38 fun v39 => h_op3_build [zu, zu, zu, zu] [(n0, n1, (.c v9)), (n1, n1, (.c v19)), (n2, n1, (.c v29)), (n3, n1, (.c v39))] c r s fun v40 s => dS z m (nat_lit 140737488355328) (nat_lit 140737488355327) s n4 (r q7) v40 fun _ m s => K [(r q1)] s) s.next mk0)
 .ret)))), [(.tmp q6), (.cellN n4 q7)], [q0, q1, q2], [q12, q13, q14, q15, q16, q17, q18, q19, q20, q21, q22, q23, q24, q25, q26, q27, q28, q29, q30, q31, q32, q33, q34, q35, q36, q37, q38, q39, q40, q41, q42, q43, q44, q45, q46, q47, q48, q49, q50, q51, q52, q53, q54, q55, q56, q57, q58, q59, q60, q61, q62, q63, q64, q65, q66, q67, q68, q69, q70, q71, q72, q73, q74, q75, q76, q77, q78, q79, q80, q81, q82, q83, q84, q85, q86, q87, q88, q89, q90]⟩
/- (attestor/sponge.mixer).power -/
noncomputable def cf79 : HF := ⟨
(.seq (.reg [q2, q4] fun c r s K => bxx s (r q0) fun v0 s => K [v0, U0] s)
 (.seq (.reg [q5] fun c r s K => binK .mul (r q1) (r q1) fun v0 => fad n0 (r q2) fun v1 => ld s v1 fun v2 => binK .rem v0 v2 fun v3 => K [v3] s)
 (.seq (.seq (.reg [q13] fun c r s K => fad n2 (r q2) fun v0 => ld s v0 fun v1 => K [v1] s)
 (.cond (.t q13) (.reg [q5] fun c r s K => binK .mul (r q5) (r q5) fun v0 => fad n0 (r q2) fun v1 => ld s v1 fun v2 => binK .rem v0 v2 fun v3 => K [v3] s)
 .skip))
 (.seq (.reg [q4] fun c r s K => binK .mul (r q5) (r q1) fun v0 => fad n0 (r q2) fun v1 => ld s v1 fun v2 => binK .rem v0 v2 fun v3 => K [v3] s)
 .ret)))), [(.tmp q4)], [q0, q1], [q6, q7, q8, q9, q10, q11, q12, q14, q15, q16, q17, q18, q19, q20, q21, q22, q23, q24, q25]⟩
/- (attestor/sponge.mixer).reduced -/
noncomputable def cf72 : HF := ⟨
(.seq (.reg [q2, q3, q4] fun c r s K => bxx s (r q0) fun v0 s => bxx s (r q1) fun v1 s => alc s [zu, zu, zu, zu] fun v2 s => K [v0, v1, v2] s)
 (.seq (.seq (.reg [q6] fun c r s K => K [I0] s)
 (.block n0 (.loop (.seq (.reg [q7] fun c r s K => binK .lss (r q6) I4 fun v0 => K [v0] s)
 (.seq (.cond (.t q7) .skip
 (.exit n0))
 (.seq (.block n1 (.seq (.reg [q5] fun c r s K => K [(r q6)] s)
 (.drw [] fun c r s K => (fun z m => ixA n4 n1 (r q3) (r q5) fun v0 => dL z m n4 n3 s v0 fun v1 m s => fad n0 (r q2) fun v2 => dL z m n16 n8 s v2 fun v3 m s => binK .rem v1 v3 fun v4 => ixA n4 n1 (r q3) (r q5) fun v5 => dS z m n128 n127 s n1 v5 v4 fun _ m s => K [] s) s.next mk0)))
 (.reg [q6] fun c r s K => binK .add (r q6) I1 fun v0 => K [v0] s)))))))
 (.seq (.reg [] fun c r s K => lN s n4 (r q3) fun v0 => sto s n4 (r q4) v0 fun s => K [] s)
 .ret))), [(.cellN n4 q4)], [q0, q1], [q8, q9, q10, q11, q12, q13, q14, q15, q16, q17]⟩
/- attestor/field.Pow -/
noncomputable def cf71 : HF := ⟨
(.seq (.reg [q6] fun c r s K => K [U0] s)
 (.seq (.seq (.reg [q10] fun c r s K => c n46 [(r q0)] s fun v0 s => nott v0 fun v1 => K [v1] s)
 (.cond (.t q10) (.seq (.reg [q6] fun c r s K => K [U0] s)
 .ret)
 .skip))
 (.seq (.reg [q7] fun c r s K => K [U1] s)
 (.seq (.block n0 (.loop (.seq (.seq (.reg [q12] fun c r s K => binK .gtr (r q2) U0 fun v0 => K [v0] s)
 (.cond (.t q12) .skip
 (.exit n0)))
 (.seq (.block n1 (.seq (.seq (.reg [q17] fun c r s K => binK .and (r q2) U1 fun v0 => binK .eql v0 U1 fun v1 => K [v1] s)
 (.cond (.t q17) (.reg [q7] fun c r s K => c n57 [(r q0), (r q7), (r q1)] s fun v0 s => K [v0] s)
 .skip))
 (.reg [q1] fun c r s K => c n57 [(r q0), (r q1), (r q1)] s fun v0 s => K [v0] s)))
 (.reg [q2] fun c r s K => xS false (r q2) U1 c r s fun v0 s => K [v0] s)))))
 (.seq (.reg [q6] fun c r s K => K [(r q7)] s)
 .ret))))), [(.tmp q6)], [q0, q1, q2], [q8, q9, q11, q15, q16, q18, q19, q20, q21, q22, q23, q24, q25, q13, q14, q26]⟩
/- attestor/sponge.in -/
noncomputable def cf69 : HF := ⟨
(.seq (.reg [q2] fun c r s K => alc s [zu, zu, (.bool false)] fun v0 s => K [v0] s)
 (.seq (.reg [] fun c r s K => c n54 [(r q0)] s fun v0 s => c n77 [(r q0)] s fun v1 s => c n78 [(r q0)] s fun v2 s => binK .eql v2 I5 fun v3 => h_op3_build [zu, zu, (.bool false)] [(n0, n1, (.c v0)), (n1, n1, (.c v1)), (n2, n1, (.c v3))] c r s fun v4 s => sto s n3 (r q2) v4 fun s => K [] s)
 .ret)), [(.cellN n3 q2)], [q0], [q3, q4, q5, q6, q7, q8, q9, q10]⟩
/- attestor/field.Exponent -/
noncomputable def cf78 : HF := ⟨
(.seq (.reg [q2] fun c r s K => K [I0] s)
 (.seq (.reg [q2] fun c r s K => c n67 [(r q0)] s fun v0 s => fld n3 n1 false v0 fun v1 => K [v1] s)
 .ret)), [(.tmp q2)], [q0], [q3, q4, q5]⟩
/- attestor/field.Generator -/
noncomputable def cf77 : HF := ⟨
(.seq (.reg [q2] fun c r s K => K [U0] s)
 (.seq (.reg [q2] fun c r s K => c n67 [(r q0)] s fun v0 s => fld n1 n1 false v0 fun v1 => K [v1] s)
 .ret)), [(.tmp q2)], [q0], [q3, q4, q5]⟩
/- attestor/sponge.known -/
noncomputable def cf68 : HF := ⟨
(.seq (.reg [q4] fun c r s K => K [ff] s)
 (.seq (.reg [q4] fun c r s K => c n46 [(r q0)] s fun v0 s => mt v0 (r q1) s fun v1 s => jt v0 (binK .geq v1 I0) s fun v2 s => pck v0 v2 ff fun v3 => mt v3 (r q1) s fun v4 s => jt v3 (binK .lss v4 I8) s fun v5 s => pck v3 v5 ff fun v6 => K [v6] s)
 .ret)), [(.tmp q4)], [q0, q1], [q5, q6, q7, q8, q9, q10, q11, q12, q13, q14]⟩
/- attestor/gates.Run$1 -/
noncomputable def cf37 : HF := ⟨
(.seq (.reg [q10] fun c r s K => ld s (r q2) fun v0 => ixs n1 v0 (r q0) fun v1 => ld s v1 fun v2 => nott v2 fun v3 => K [v3] s)
 (.cond (.t q10) (.drw [] fun c r s K => (fun z m => dL z m n1 n0 s (r q2) fun v0 m s => dL z m n4 n0 s (r q3) fun v1 m s => ixs n1 v0 (r q0) fun v2 => dS z m n64 n35 s n1 v2 tt fun _ m s => ixs n1 v1 (r q0) fun v4 => dS z m (nat_lit 256) (nat_lit 255) s n1 v4 (r q1) fun _ m s => K [] s) s.next mk0)
 .skip)), [], [q0, q1, q2, q3], [q6, q7, q8, q9, q11, q12, q13, q14, q15, q16, q17]⟩
/- attestor/gates.elements -/
noncomputable def cf36 : HF := ⟨
(.seq (.reg [q4] fun c r s K => K [ff] s)
 (.seq (.reg [q4] fun c r s K => lnS (r q1) fun v0 => binK .eql v0 I0 fun v1 => mf v1 (r q1) s fun v2 s => jn false v1 (fun j => c n55 [v2] s j) s fun v3 s => mf v1 (r q0) s fun v4 s => jn false v1 (fun j => c n54 [v4] s j) s fun v5 s => jf v1 (binK .lss v3 v5) s fun v6 s => pck v1 tt v6 fun v7 => K [v7] s)
 .ret)), [(.tmp q4)], [q0, q1], [q5, q6, q7, q8, q9, q10, q11, q12, q13, q14]⟩
/- attestor/attestorlaw32.made -/
noncomputable def cf19 : HF := ⟨
(.seq (.reg [q4, q5] fun c r s K => K [(.sc zn), (.sc zn)] s)
 (.seq (.seq (.reg [q6] fun c r s K => K [I0] s)
 (.block n0 (.loop (.seq (.seq (.reg [q14] fun c r s K => lnS (r q0) fun v0 => binK .lss (r q6) v0 fun v1 => K [v1] s)
 (.cond (.t q14) .skip
 (.exit n0)))
 (.seq (.block n1 (.seq (.reg [q7, q8] fun c r s K => K [(.sc zn), (.sc zn)] s)
 (.seq (.seq (.reg [q9] fun c r s K => K [I0] s)
 (.block n2 (.loop (.seq (.seq (.drw [q29] fun c r s K => (fun z m => ixs n5 (r q0) (r q6) fun v0 => fad n2 v0 fun v1 => dL z m n32 n30 s v1 fun v2 m s => ixs n5 (r q0) (r q6) fun v3 => fad n3 v3 fun v4 => dL z m (nat_lit 1024) (nat_lit 960) s v4 fun v5 m s => binK .add v2 v5 fun v6 => binK .lss (r q9) v6 fun v7 => K [v7] s) s.next mk0)
 (.cond (.t q29) .skip
 (.exit n2)))
 (.seq (.block n3 (.seq (.reg [q10] fun c r s K => K [U0] s)
 (.seq (.seq (.reg [q34] fun c r s K => lnS (r q1) fun v0 => binK .gtr v0 I0 fun v1 => K [v1] s)
 (.cond (.t q34) (.drw [q10, q1] fun c r s K => (fun z m => ixs n5 (r q0) (r q6) fun v0 => fad n0 v0 fun v1 => dL z m n16 n15 s v1 fun v2 m s => ixs n1 (r q1) I0 fun v3 => dL z m n128 n96 s v3 fun v4 m s => dw3 m (nat_lit 256) (nat_lit 255) s (fun s q => c n35 [v2, v4] s q) fun v5 m s => h_op3_sliceS n1 (.c (r q1)) (some (.c I1)) none none c r s fun v6 s => K [v5, v6] s) s.next mk0)
 .skip))
 (.seq (.reg [q52] fun c r s K => ixs n5 (r q0) (r q6) fun v0 => fad n2 v0 fun v1 => ld s v1 fun v2 => binK .lss (r q9) v2 fun v3 => K [v3] s)
 (.cond (.t q52) (.reg [q7] fun c r s K => h_op3_buildS n1 n1 [zu] [(n0, n1, (.c (r q10)))] c r s fun v0 s => xA n1 n8 (r q7) v0 c r s fun v1 s => K [v1] s)
 (.reg [q8] fun c r s K => h_op3_buildS n1 n1 [zu] [(n0, n1, (.c (r q10)))] c r s fun v0 s => xA n1 n8 (r q8) v0 c r s fun v1 s => K [v1] s))))))
 (.reg [q9] fun c r s K => binK .add (r q9) I1 fun v0 => K [v0] s))))))
 (.reg [q4, q5] fun c r s K => h_op3_buildS n1 n1 [zn] [(n0, n1, (.c (r q7)))] c r s fun v0 s => xA n1 n24 (r q4) v0 c r s fun v1 s => h_op3_buildS n1 n1 [zn] [(n0, n1, (.c (r q8)))] c r s fun v2 s => xA n1 n24 (r q5) v2 c r s fun v3 s => K [v1, v3] s))))
 (.reg [q6] fun c r s K => binK .add (r q6) I1 fun v0 => K [v0] s))))))
 (.seq (.reg [q4, q5] fun c r s K => K [(r q4), (r q5)] s)
 .ret))), [(.tmp q4), (.tmp q5)], [q0, q1], [q11, q12, q13, q17, q18, q19, q20, q21, q22, q23, q24, q25, q26, q27, q28, q32, q33, q35, q36, q37, q38, q39, q40, q41, q42, q43, q44, q45, q46, q47, q48, q49, q50, q51, q53, q54, q55, q56, q57, q58, q59, q60, q30, q31, q61, q62, q63, q64, q65, q66, q67, q68, q15, q16, q69, q70]⟩
/- attestor/field.Reduce -/
noncomputable def cf35 : HF := ⟨
(.seq (.reg [q4] fun c r s K => K [U0] s)
 (.seq (.seq (.reg [q7] fun c r s K => c n46 [(r q0)] s fun v0 s => nott v0 fun v1 => K [v1] s)
 (.cond (.t q7) (.seq (.reg [q4] fun c r s K => K [U0] s)
 .ret)
 .skip))
 (.seq (.reg [q4] fun c r s K => c n54 [(r q0)] s fun v0 s => binK .rem (r q1) v0 fun v1 => K [v1] s)
 .ret))), [(.tmp q4)], [q0, q1], [q5, q6, q8, q9, q10, q11]⟩
end Go.Proofs.YticfndhcbjcklaaDoor.Ev
