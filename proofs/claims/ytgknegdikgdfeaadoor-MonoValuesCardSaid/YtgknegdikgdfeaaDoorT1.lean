/- Compiled functions of the translated program, and that each is what the compiler makes of it; no conditions. -/
import Derived.Test.YtgknegdikgdfeaaDoorEvC
import Derived.KernelRfl
namespace Go.Proofs.YtgknegdikgdfeaaDoor.Ev
set_option maxRecDepth 100000
set_option linter.unusedVariables false
/- internal/strconv.formatBase10 -/
noncomputable def cf93 : HF := ⟨
(.seq (.reg [q4] fun c r s K => lnS (r q0) fun v0 => K [v0] s)
 (.seq (.block n0 (.loop (.seq (.seq (.reg [q20] fun c r s K => binK .geq (r q4) I8 fun v0 => K [v0] s)
 (.cond (.t q20) .skip
 (.exit n0)))
 (.block n1 (.seq (.reg [q5] fun c r s K => binK .rem (r q1) (u6 (nat_lit 100000000)) fun v0 => cnv .u32 v0 fun v1 => K [v1] s)
 (.seq (.reg [q1] fun c r s K => binK .quo (r q1) (u6 (nat_lit 100000000)) fun v0 => K [v0] s)
 (.seq (.reg [q6, q7] fun c r s K => binK .quo (r q5) (.sc (.int .u32 (.ofNat (nat_lit 10000)))) fun v0 => binK .rem (r q5) (.sc (.int .u32 (.ofNat (nat_lit 10000)))) fun v1 => K [v0, v1] s)
 (.seq (.reg [q8, q9] fun c r s K => binK .quo (r q7) (.sc (.int .u32 (.ofNat n100))) fun v0 => binK .mul v0 (.sc (.int .u32 (.ofNat n2))) fun v1 => binK .rem (r q7) (.sc (.int .u32 (.ofNat n100))) fun v2 => binK .mul v2 (.sc (.int .u32 (.ofNat n2))) fun v3 => K [v1, v3] s)
 (.seq (.reg [q10, q11] fun c r s K => binK .quo (r q6) (.sc (.int .u32 (.ofNat n100))) fun v0 => binK .mul v0 (.sc (.int .u32 (.ofNat n2))) fun v1 => binK .rem (r q6) (.sc (.int .u32 (.ofNat n100))) fun v2 => binK .mul v2 (.sc (.int .u32 (.ofNat n2))) fun v3 => K [v1, v3] s)
 (.seq (.drw [] fun c r s K => (fun z m => binK .sub (r q4) I1 fun v0 => binK .sub (r q4) I2 fun v1 => binK .add (r q9) (.sc (.int .u32 (.ofNat n1))) fun v2 => h_op4_byteAt (.c (.sc (.lit (.string ⟨#[48, 48, 48, 49, 48, 50, 48, 51, 48, 52, 48, 53, 48, 54, 48, 55, 48, 56, 48, 57, 49, 48, 49, 49, 49, 50, 49, 51, 49, 52, 49, 53, 49, 54, 49, 55, 49, 56, 49, 57, 50, 48, 50, 49, 50, 50, 50, 51, 50, 52, 50, 53, 50, 54, 50, 55, 50, 56, 50, 57, 51, 48, 51, 49, 51, 50, 51, 51, 51, 52, 51, 53, 51, 54, 51, 55, 51, 56, 51, 57, 52, 48, 52, 49, 52, 50, 52, 51, 52, 52, 52, 53, 52, 54, 52, 55, 52, 56, 52, 57, 53, 48, 53, 49, 53, 50, 53, 51, 53, 52, 53, 53, 53, 54, 53, 55, 53, 56, 53, 57, 54, 48, 54, 49, 54, 50, 54, 51, 54, 52, 54, 53, 54, 54, 54, 55, 54, 56, 54, 57, 55, 48, 55, 49, 55, 50, 55, 51, 55, 52, 55, 53, 55, 54, 55, 55, 55, 56, 55, 57, 56, 48, 56, 49, 56, 50, 56, 51, 56, 52, 56, 53, 56, 54, 56, 55, 56, 56, 56, 57, 57, 48, 57, 49, 57, 50, 57, 51, 57, 52, 57, 53, 57, 54, 57, 55, 57, 56, 57, 57]⟩)))) (.c v2) c r s fun v3 s => h_op4_byteAt (.c (.sc (.lit (.string ⟨#[48, 48, 48, 49, 48, 50, 48, 51, 48, 52, 48, 53, 48, 54, 48, 55, 48, 56, 48, 57, 49, 48, 49, 49, 49, 50, 49, 51, 49, 52, 49, 53, 49, 54, 49, 55, 49, 56, 49, 57, 50, 48, 50, 49, 50, 50, 50, 51, 50, 52, 50, 53, 50, 54, 50, 55, 50, 56, 50, 57, 51, 48, 51, 49, 51, 50, 51, 51, 51, 52, 51, 53, 51, 54, 51, 55, 51, 56, 51, 57, 52, 48, 52, 49, 52, 50, 52, 51, 52, 52, 52, 53, 52, 54, 52, 55, 52, 56, 52, 57, 53, 48, 53, 49, 53, 50, 53, 51, 53, 52, 53, 53, 53, 54, 53, 55, 53, 56, 53, 57, 54, 48, 54, 49, 54, 50, 54, 51, 54, 52, 54, 53, 54, 54, 54, 55, 54, 56, 54, 57, 55, 48, 55, 49, 55, 50, 55, 51, 55, 52, 55, 53, 55, 54, 55, 55, 55, 56, 55, 57, 56, 48, 56, 49, 56, 50, 56, 51, 56, 52, 56, 53, 56, 54, 56, 55, 56, 56, 56, 57, 57, 48, 57, 49, 57, 50, 57, 51, 57, 52, 57, 53, 57, 54, 57, 55, 57, 56, 57, 57]⟩)))) (.c (r q9)) c r s fun v4 s => ixs n1 (r q0) v0 fun v5 => dS z m (nat_lit 4096) (nat_lit 2503) s n1 v5 v3 fun _ m s => ixs n1 (r q0) v1 fun v7 => dS z m (nat_lit 16384) (nat_lit 16383) s n1 v7 v4 fun _ m s => K [] s) s.next mk0)
 (.seq (.drw [] fun c r s K => (fun z m => binK .sub (r q4) I3 fun v0 => binK .sub (r q4) I4 fun v1 => binK .add (r q8) (.sc (.int .u32 (.ofNat n1))) fun v2 => h_op4_byteAt (.c (.sc (.lit (.string ⟨#[48, 48, 48, 49, 48, 50, 48, 51, 48, 52, 48, 53, 48, 54, 48, 55, 48, 56, 48, 57, 49, 48, 49, 49, 49, 50, 49, 51, 49, 52, 49, 53, 49, 54, 49, 55, 49, 56, 49, 57, 50, 48, 50, 49, 50, 50, 50, 51, 50, 52, 50, 53, 50, 54, 50, 55, 50, 56, 50, 57, 51, 48, 51, 49, 51, 50, 51, 51, 51, 52, 51, 53, 51, 54, 51, 55, 51, 56, 51, 57, 52, 48, 52, 49, 52, 50, 52, 51, 52, 52, 52, 53, 52, 54, 52, 55, 52, 56, 52, 57, 53, 48, 53, 49, 53, 50, 53, 51, 53, 52, 53, 53, 53, 54, 53, 55, 53, 56, 53, 57, 54, 48, 54, 49, 54, 50, 54, 51, 54, 52, 54, 53, 54, 54, 54, 55, 54, 56, 54, 57, 55, 48, 55, 49, 55, 50, 55, 51, 55, 52, 55, 53, 55, 54, 55, 55, 55, 56, 55, 57, 56, 48, 56, 49, 56, 50, 56, 51, 56, 52, 56, 53, 56, 54, 56, 55, 56, 56, 56, 57, 57, 48, 57, 49, 57, 50, 57, 51, 57, 52, 57, 53, 57, 54, 57, 55, 57, 56, 57, 57]⟩)))) (.c v2) c r s fun v3 s => h_op4_byteAt (.c (.sc (.lit (.string ⟨#[48, 48, 48, 49, 48, 50, 48, 51, 48, 52, 48, 53, 48, 54, 48, 55, 48, 56, 48, 57, 49, 48, 49, 49, 49, 50, 49, 51, 49, 52, 49, 53, 49, 54, 49, 55, 49, 56, 49, 57, 50, 48, 50, 49, 50, 50, 50, 51, 50, 52, 50, 53, 50, 54, 50, 55, 50, 56, 50, 57, 51, 48, 51, 49, 51, 50, 51, 51, 51, 52, 51, 53, 51, 54, 51, 55, 51, 56, 51, 57, 52, 48, 52, 49, 52, 50, 52, 51, 52, 52, 52, 53, 52, 54, 52, 55, 52, 56, 52, 57, 53, 48, 53, 49, 53, 50, 53, 51, 53, 52, 53, 53, 53, 54, 53, 55, 53, 56, 53, 57, 54, 48, 54, 49, 54, 50, 54, 51, 54, 52, 54, 53, 54, 54, 54, 55, 54, 56, 54, 57, 55, 48, 55, 49, 55, 50, 55, 51, 55, 52, 55, 53, 55, 54, 55, 55, 55, 56, 55, 57, 56, 48, 56, 49, 56, 50, 56, 51, 56, 52, 56, 53, 56, 54, 56, 55, 56, 56, 56, 57, 57, 48, 57, 49, 57, 50, 57, 51, 57, 52, 57, 53, 57, 54, 57, 55, 57, 56, 57, 57]⟩)))) (.c (r q8)) c r s fun v4 s => ixs n1 (r q0) v0 fun v5 => dS z m (nat_lit 4096) (nat_lit 2503) s n1 v5 v3 fun _ m s => ixs n1 (r q0) v1 fun v7 => dS z m (nat_lit 16384) (nat_lit 16383) s n1 v7 v4 fun _ m s => K [] s) s.next mk0)
 (.seq (.drw [] fun c r s K => (fun z m => binK .sub (r q4) I5 fun v0 => binK .sub (r q4) I6 fun v1 => binK .add (r q11) (.sc (.int .u32 (.ofNat n1))) fun v2 => h_op4_byteAt (.c (.sc (.lit (.string ⟨#[48, 48, 48, 49, 48, 50, 48, 51, 48, 52, 48, 53, 48, 54, 48, 55, 48, 56, 48, 57, 49, 48, 49, 49, 49, 50, 49, 51, 49, 52, 49, 53, 49, 54, 49, 55, 49, 56, 49, 57, 50, 48, 50, 49, 50, 50, 50, 51, 50, 52, 50, 53, 50, 54, 50, 55, 50, 56, 50, 57, 51, 48, 51, 49, 51, 50, 51, 51, 51, 52, 51, 53, 51, 54, 51, 55, 51, 56, 51, 57, 52, 48, 52, 49, 52, 50, 52, 51, 52, 52, 52, 53, 52, 54, 52, 55, 52, 56, 52, 57, 53, 48, 53, 49, 53, 50, 53, 51, 53, 52, 53, 53, 53, 54, 53, 55, 53, 56, 53, 57, 54, 48, 54, 49, 54, 50, 54, 51, 54, 52, 54, 53, 54, 54, 54, 55, 54, 56, 54, 57, 55, 48, 55, 49, 55, 50, 55, 51, 55, 52, 55, 53, 55, 54, 55, 55, 55, 56, 55, 57, 56, 48, 56, 49, 56, 50, 56, 51, 56, 52, 56, 53, 56, 54, 56, 55, 56, 56, 56, 57, 57, 48, 57, 49, 57, 50, 57, 51, 57, 52, 57, 53, 57, 54, 57, 55, 57, 56, 57, 57]⟩)))) (.c v2) c r s fun v3 s => h_op4_byteAt (.c (.sc (.lit (.string ⟨#[48, 48, 48, 49, 48, 50, 48, 51, 48, 52, 48, 53, 48, 54, 48, 55, 48, 56, 48, 57, 49, 48, 49, 49, 49, 50, 49, 51, 49, 52, 49, 53, 49, 54, 49, 55, 49, 56, 49, 57, 50, 48, 50, 49, 50, 50, 50, 51, 50, 52, 50, 53, 50, 54, 50, 55, 50, 56, 50, 57, 51, 48, 51, 49, 51, 50, 51, 51, 51, 52, 51, 53, 51, 54, 51, 55, 51, 56, 51, 57, 52, 48, 52, 49, 52, 50, 52, 51, 52, 52, 52, 53, 52, 54, 52, 55, 52, 56, 52, 57, 53, 48, 53, 49, 53, 50, 53, 51, 53, 52, 53, 53, 53, 54, 53, 55, 53, 56, 53, 57, 54, 48, 54, 49, 54, 50, 54, 51, 54, 52, 54, 53, 54, 54, 54, 55, 54, 56, 54, 57, 55, 48, 55, 49, 55, 50, 55, 51, 55, 52, 55, 53, 55, 54, 55, 55, 55, 56, 55, 57, 56, 48, 56, 49, 56, 50, 56, 51, 56, 52, 56, 53, 56, 54, 56, 55, 56, 56, 56, 57, 57, 48, 57, 49, 57, 50, 57, 51, 57, 52, 57, 53, 57, 54, 57, 55, 57, 56, 57, 57]⟩)))) (.c (r q11)) c r s fun v4 s => ixs n1 (r q0) v0 fun v5 => dS z m (nat_lit 4096) (nat_lit 2503) s n1 v5 v3 fun _ m s => ixs n1 (r q0) v1 fun v7 => dS z m (nat_lit 16384) (nat_lit 16383) s n1 v7 v4 fun _ m s => K [] s) s.next mk0)
 (.seq (.drw [] fun c r s K => (fun z m => binK .sub (r q4) I7 fun v0 => binK .sub (r q4) I8 fun v1 => binK .add (r q10) (.sc (.int .u32 (.ofNat n1))) fun v2 => h_op4_byteAt (.c (.sc (.lit (.string ⟨#[48, 48, 48, 49, 48, 50, 48, 51, 48, 52, 48, 53, 48, 54, 48, 55, 48, 56, 48, 57, 49, 48, 49, 49, 49, 50, 49, 51, 49, 52, 49, 53, 49, 54, 49, 55, 49, 56, 49, 57, 50, 48, 50, 49, 50, 50, 50, 51, 50, 52, 50, 53, 50, 54, 50, 55, 50, 56, 50, 57, 51, 48, 51, 49, 51, 50, 51, 51, 51, 52, 51, 53, 51, 54, 51, 55, 51, 56, 51, 57, 52, 48, 52, 49, 52, 50, 52, 51, 52, 52, 52, 53, 52, 54, 52, 55, 52, 56, 52, 57, 53, 48, 53, 49, 53, 50, 53, 51, 53, 52, 53, 53, 53, 54, 53, 55, 53, 56, 53, 57, 54, 48, 54, 49, 54, 50, 54, 51, 54, 52, 54, 53, 54, 54, 54, 55, 54, 56, 54, 57, 55, 48, 55, 49, 55, 50, 55, 51, 55, 52, 55, 53, 55, 54, 55, 55, 55, 56, 55, 57, 56, 48, 56, 49, 56, 50, 56, 51, 56, 52, 56, 53, 56, 54, 56, 55, 56, 56, 56, 57, 57, 48, 57, 49, 57, 50, 57, 51, 57, 52, 57, 53, 57, 54, 57, 55, 57, 56, 57, 57]⟩)))) (.c v2) c r s fun v3 s => h_op4_byteAt (.c (.sc (.lit (.string ⟨#[48, 48, 48, 49, 48, 50, 48, 51, 48, 52, 48, 53, 48, 54, 48, 55, 48, 56, 48, 57, 49, 48, 49, 49, 49, 50, 49, 51, 49, 52, 49, 53, 49, 54, 49, 55, 49, 56, 49, 57, 50, 48, 50, 49, 50, 50, 50, 51, 50, 52, 50, 53, 50, 54, 50, 55, 50, 56, 50, 57, 51, 48, 51, 49, 51, 50, 51, 51, 51, 52, 51, 53, 51, 54, 51, 55, 51, 56, 51, 57, 52, 48, 52, 49, 52, 50, 52, 51, 52, 52, 52, 53, 52, 54, 52, 55, 52, 56, 52, 57, 53, 48, 53, 49, 53, 50, 53, 51, 53, 52, 53, 53, 53, 54, 53, 55, 53, 56, 53, 57, 54, 48, 54, 49, 54, 50, 54, 51, 54, 52, 54, 53, 54, 54, 54, 55, 54, 56, 54, 57, 55, 48, 55, 49, 55, 50, 55, 51, 55, 52, 55, 53, 55, 54, 55, 55, 55, 56, 55, 57, 56, 48, 56, 49, 56, 50, 56, 51, 56, 52, 56, 53, 56, 54, 56, 55, 56, 56, 56, 57, 57, 48, 57, 49, 57, 50, 57, 51, 57, 52, 57, 53, 57, 54, 57, 55, 57, 56, 57, 57]⟩)))) (.c (r q10)) c r s fun v4 s => ixs n1 (r q0) v0 fun v5 => dS z m (nat_lit 4096) (nat_lit 2503) s n1 v5 v3 fun _ m s => ixs n1 (r q0) v1 fun v7 => dS z m (nat_lit 16384) (nat_lit 16383) s n1 v7 v4 fun _ m s => K [] s) s.next mk0)
 (.reg [q4] fun c r s K => binK .sub (r q4) I8 fun v0 => K [v0] s))))))))))))))
 (.seq (.reg [q12] fun c r s K => cnv .u32 (r q1) fun v0 => K [v0] s)
 (.seq (.seq (.reg [q99] fun c r s K => binK .geq (r q4) I4 fun v0 => K [v0] s)
 (.cond (.t q99) (.seq (.reg [q13] fun c r s K => binK .rem (r q12) (.sc (.int .u32 (.ofNat (nat_lit 10000)))) fun v0 => K [v0] s)
 (.seq (.reg [q12] fun c r s K => binK .quo (r q12) (.sc (.int .u32 (.ofNat (nat_lit 10000)))) fun v0 => K [v0] s)
 (.seq (.reg [q14, q15] fun c r s K => binK .quo (r q13) (.sc (.int .u32 (.ofNat n100))) fun v0 => binK .mul v0 (.sc (.int .u32 (.ofNat n2))) fun v1 => binK .rem (r q13) (.sc (.int .u32 (.ofNat n100))) fun v2 => binK .mul v2 (.sc (.int .u32 (.ofNat n2))) fun v3 => K [v1, v3] s)
 (.seq (.drw [] fun c r s K => (fun z m => binK .sub (r q4) I1 fun v0 => binK .sub (r q4) I2 fun v1 => binK .add (r q15) (.sc (.int .u32 (.ofNat n1))) fun v2 => h_op4_byteAt (.c (.sc (.lit (.string ⟨#[48, 48, 48, 49, 48, 50, 48, 51, 48, 52, 48, 53, 48, 54, 48, 55, 48, 56, 48, 57, 49, 48, 49, 49, 49, 50, 49, 51, 49, 52, 49, 53, 49, 54, 49, 55, 49, 56, 49, 57, 50, 48, 50, 49, 50, 50, 50, 51, 50, 52, 50, 53, 50, 54, 50, 55, 50, 56, 50, 57, 51, 48, 51, 49, 51, 50, 51, 51, 51, 52, 51, 53, 51, 54, 51, 55, 51, 56, 51, 57, 52, 48, 52, 49, 52, 50, 52, 51, 52, 52, 52, 53, 52, 54, 52, 55, 52, 56, 52, 57, 53, 48, 53, 49, 53, 50, 53, 51, 53, 52, 53, 53, 53, 54, 53, 55, 53, 56, 53, 57, 54, 48, 54, 49, 54, 50, 54, 51, 54, 52, 54, 53, 54, 54, 54, 55, 54, 56, 54, 57, 55, 48, 55, 49, 55, 50, 55, 51, 55, 52, 55, 53, 55, 54, 55, 55, 55, 56, 55, 57, 56, 48, 56, 49, 56, 50, 56, 51, 56, 52, 56, 53, 56, 54, 56, 55, 56, 56, 56, 57, 57, 48, 57, 49, 57, 50, 57, 51, 57, 52, 57, 53, 57, 54, 57, 55, 57, 56, 57, 57]⟩)))) (.c v2) c r s fun v3 s => h_op4_byteAt (.c (.sc (.lit (.string ⟨#[48, 48, 48, 49, 48, 50, 48, 51, 48, 52, 48, 53, 48, 54, 48, 55, 48, 56, 48, 57, 49, 48, 49, 49, 49, 50, 49, 51, 49, 52, 49, 53, 49, 54, 49, 55, 49, 56, 49, 57, 50, 48, 50, 49, 50, 50, 50, 51, 50, 52, 50, 53, 50, 54, 50, 55, 50, 56, 50, 57, 51, 48, 51, 49, 51, 50, 51, 51, 51, 52, 51, 53, 51, 54, 51, 55, 51, 56, 51, 57, 52, 48, 52, 49, 52, 50, 52, 51, 52, 52, 52, 53, 52, 54, 52, 55, 52, 56, 52, 57, 53, 48, 53, 49, 53, 50, 53, 51, 53, 52, 53, 53, 53, 54, 53, 55, 53, 56, 53, 57, 54, 48, 54, 49, 54, 50, 54, 51, 54, 52, 54, 53, 54, 54, 54, 55, 54, 56, 54, 57, 55, 48, 55, 49, 55, 50, 55, 51, 55, 52, 55, 53, 55, 54, 55, 55, 55, 56, 55, 57, 56, 48, 56, 49, 56, 50, 56, 51, 56, 52, 56, 53, 56, 54, 56, 55, 56, 56, 56, 57, 57, 48, 57, 49, 57, 50, 57, 51, 57, 52, 57, 53, 57, 54, 57, 55, 57, 56, 57, 57]⟩)))) (.c (r q15)) c r s fun v4 s => ixs n1 (r q0) v0 fun v5 => dS z m (nat_lit 4096) (nat_lit 2503) s n1 v5 v3 fun _ m s => ixs n1 (r q0) v1 fun v7 => dS z m (nat_lit 16384) (nat_lit 16383) s n1 v7 v4 fun _ m s => K [] s) s.next mk0)
 (.seq (.drw [] fun c r s K => (fun z m => binK .sub (r q4) I3 fun v0 => binK .sub (r q4) I4 fun v1 => binK .add (r q14) (.sc (.int .u32 (.ofNat n1))) fun v2 => h_op4_byteAt (.c (.sc (.lit (.string ⟨#[48, 48, 48, 49, 48, 50, 48, 51, 48, 52, 48, 53, 48, 54, 48, 55, 48, 56, 48, 57, 49, 48, 49, 49, 49, 50, 49, 51, 49, 52, 49, 53, 49, 54, 49, 55, 49, 56, 49, 57, 50, 48, 50, 49, 50, 50, 50, 51, 50, 52, 50, 53, 50, 54, 50, 55, 50, 56, 50, 57, 51, 48, 51, 49, 51, 50, 51, 51, 51, 52, 51, 53, 51, 54, 51, 55, 51, 56, 51, 57, 52, 48, 52, 49, 52, 50, 52, 51, 52, 52, 52, 53, 52, 54, 52, 55, 52, 56, 52, 57, 53, 48, 53, 49, 53, 50, 53, 51, 53, 52, 53, 53, 53, 54, 53, 55, 53, 56, 53, 57, 54, 48, 54, 49, 54, 50, 54, 51, 54, 52, 54, 53, 54, 54, 54, 55, 54, 56, 54, 57, 55, 48, 55, 49, 55, 50, 55, 51, 55, 52, 55, 53, 55, 54, 55, 55, 55, 56, 55, 57, 56, 48, 56, 49, 56, 50, 56, 51, 56, 52, 56, 53, 56, 54, 56, 55, 56, 56, 56, 57, 57, 48, 57, 49, 57, 50, 57, 51, 57, 52, 57, 53, 57, 54, 57, 55, 57, 56, 57, 57]⟩)))) (.c v2) c r s fun v3 s => h_op4_byteAt (.c (.sc (.lit (.string ⟨#[48, 48, 48, 49, 48, 50, 48, 51, 48, 52, 48, 53, 48, 54, 48, 55, 48, 56, 48, 57, 49, 48, 49, 49, 49, 50, 49, 51, 49, 52, 49, 53, 49, 54, 49, 55, 49, 56, 49, 57, 50, 48, 50, 49, 50, 50, 50, 51, 50, 52, 50, 53, 50, 54, 50, 55, 50, 56, 50, 57, 51, 48, 51, 49, 51, 50, 51, 51, 51, 52, 51, 53, 51, 54, 51, 55, 51, 56, 51, 57, 52, 48, 52, 49, 52, 50, 52, 51, 52, 52, 52, 53, 52, 54, 52, 55, 52, 56, 52, 57, 53, 48, 53, 49, 53, 50, 53, 51, 53, 52, 53, 53, 53, 54, 53, 55, 53, 56, 53, 57, 54, 48, 54, 49, 54, 50, 54, 51, 54, 52, 54, 53, 54, 54, 54, 55, 54, 56, 54, 57, 55, 48, 55, 49, 55, 50, 55, 51, 55, 52, 55, 53, 55, 54, 55, 55, 55, 56, 55, 57, 56, 48, 56, 49, 56, 50, 56, 51, 56, 52, 56, 53, 56, 54, 56, 55, 56, 56, 56, 57, 57, 48, 57, 49, 57, 50, 57, 51, 57, 52, 57, 53, 57, 54, 57, 55, 57, 56, 57, 57]⟩)))) (.c (r q14)) c r s fun v4 s => ixs n1 (r q0) v0 fun v5 => dS z m (nat_lit 4096) (nat_lit 2503) s n1 v5 v3 fun _ m s => ixs n1 (r q0) v1 fun v7 => dS z m (nat_lit 16384) (nat_lit 16383) s n1 v7 v4 fun _ m s => K [] s) s.next mk0)
 (.reg [q4] fun c r s K => binK .sub (r q4) I4 fun v0 => K [v0] s))))))
 .skip))
 (.seq (.seq (.reg [q139] fun c r s K => binK .geq (r q4) I2 fun v0 => K [v0] s)
 (.cond (.t q139) (.seq (.reg [q16] fun c r s K => binK .rem (r q12) (.sc (.int .u32 (.ofNat n100))) fun v0 => binK .mul v0 (.sc (.int .u32 (.ofNat n2))) fun v1 => K [v1] s)
 (.seq (.reg [q12] fun c r s K => binK .quo (r q12) (.sc (.int .u32 (.ofNat n100))) fun v0 => K [v0] s)
 (.seq (.drw [] fun c r s K => (fun z m => binK .sub (r q4) I1 fun v0 => binK .sub (r q4) I2 fun v1 => binK .add (r q16) (.sc (.int .u32 (.ofNat n1))) fun v2 => h_op4_byteAt (.c (.sc (.lit (.string ⟨#[48, 48, 48, 49, 48, 50, 48, 51, 48, 52, 48, 53, 48, 54, 48, 55, 48, 56, 48, 57, 49, 48, 49, 49, 49, 50, 49, 51, 49, 52, 49, 53, 49, 54, 49, 55, 49, 56, 49, 57, 50, 48, 50, 49, 50, 50, 50, 51, 50, 52, 50, 53, 50, 54, 50, 55, 50, 56, 50, 57, 51, 48, 51, 49, 51, 50, 51, 51, 51, 52, 51, 53, 51, 54, 51, 55, 51, 56, 51, 57, 52, 48, 52, 49, 52, 50, 52, 51, 52, 52, 52, 53, 52, 54, 52, 55, 52, 56, 52, 57, 53, 48, 53, 49, 53, 50, 53, 51, 53, 52, 53, 53, 53, 54, 53, 55, 53, 56, 53, 57, 54, 48, 54, 49, 54, 50, 54, 51, 54, 52, 54, 53, 54, 54, 54, 55, 54, 56, 54, 57, 55, 48, 55, 49, 55, 50, 55, 51, 55, 52, 55, 53, 55, 54, 55, 55, 55, 56, 55, 57, 56, 48, 56, 49, 56, 50, 56, 51, 56, 52, 56, 53, 56, 54, 56, 55, 56, 56, 56, 57, 57, 48, 57, 49, 57, 50, 57, 51, 57, 52, 57, 53, 57, 54, 57, 55, 57, 56, 57, 57]⟩)))) (.c v2) c r s fun v3 s => h_op4_byteAt (.c (.sc (.lit (.string ⟨#[48, 48, 48, 49, 48, 50, 48, 51, 48, 52, 48, 53, 48, 54, 48, 55, 48, 56, 48, 57, 49, 48, 49, 49, 49, 50, 49, 51, 49, 52, 49, 53, 49, 54, 49, 55, 49, 56, 49, 57, 50, 48, 50, 49, 50, 50, 50, 51, 50, 52, 50, 53, 50, 54, 50, 55, 50, 56, 50, 57, 51, 48, 51, 49, 51, 50, 51, 51, 51, 52, 51, 53, 51, 54, 51, 55, 51, 56, 51, 57, 52, 48, 52, 49, 52, 50, 52, 51, 52, 52, 52, 53, 52, 54, 52, 55, 52, 56, 52, 57, 53, 48, 53, 49, 53, 50, 53, 51, 53, 52, 53, 53, 53, 54, 53, 55, 53, 56, 53, 57, 54, 48, 54, 49, 54, 50, 54, 51, 54, 52, 54, 53, 54, 54, 54, 55, 54, 56, 54, 57, 55, 48, 55, 49, 55, 50, 55, 51, 55, 52, 55, 53, 55, 54, 55, 55, 55, 56, 55, 57, 56, 48, 56, 49, 56, 50, 56, 51, 56, 52, 56, 53, 56, 54, 56, 55, 56, 56, 56, 57, 57, 48, 57, 49, 57, 50, 57, 51, 57, 52, 57, 53, 57, 54, 57, 55, 57, 56, 57, 57]⟩)))) (.c (r q16)) c r s fun v4 s => ixs n1 (r q0) v0 fun v5 => dS z m (nat_lit 4096) (nat_lit 2503) s n1 v5 v3 fun _ m s => ixs n1 (r q0) v1 fun v7 => dS z m (nat_lit 16384) (nat_lit 16383) s n1 v7 v4 fun _ m s => K [] s) s.next mk0)
 (.reg [q4] fun c r s K => binK .sub (r q4) I2 fun v0 => K [v0] s))))
 .skip))
 (.seq (.reg [q161] fun c r s K => binK .gtr (r q4) I0 fun v0 => K [v0] s)
 (.cond (.t q161) (.reg [] fun c r s K => binK .add (.sc (.int .u32 (.ofNat n48))) (r q12) fun v0 => cnv .u8 v0 fun v1 => ixs n1 (r q0) I0 fun v2 => sto s n1 v2 v1 fun s => K [] s)
 .skip))))))), [], [q0, q1], [q17, q18, q19, q21, q22, q23, q24, q25, q26, q27, q28, q29, q30, q31, q32, q33, q34, q35, q36, q37, q38, q39, q40, q41, q42, q43, q44, q45, q46, q47, q48, q49, q50, q51, q52, q53, q54, q55, q56, q57, q58, q59, q60, q61, q62, q63, q64, q65, q66, q67, q68, q69, q70, q71, q72, q73, q74, q75, q76, q77, q78, q79, q80, q81, q82, q83, q84, q85, q86, q87, q88, q89, q90, q91, q92, q93, q94, q95, q96, q97, q98, q100, q101, q102, q103, q104, q105, q106, q107, q108, q109, q110, q111, q112, q113, q114, q115, q116, q117, q118, q119, q120, q121, q122, q123, q124, q125, q126, q127, q128, q129, q130, q131, q132, q133, q134, q135, q136, q137, q138, q140, q141, q142, q143, q144, q145, q146, q147, q148, q149, q150, q151, q152, q153, q154, q155, q156, q157, q158, q159, q160, q162, q163, q164, q165, q166]⟩
/- internal/strconv.numDigits -/
noncomputable def cf92 : HF := ⟨
(.seq (.reg [q2] fun c r s K => K [I0] s)
 (.seq (.reg [q3] fun c r s K => c n89 [(r q0)] s fun v0 s => c n104 [v0] s fun v1 s => K [v1] s)
 (.seq (.reg [q2] fun c r s K => ixA n20 n1 (.sc (.ptr n1 n0)) (r q3) fun v0 => ld s v0 fun v1 => binK .geq (r q0) v1 fun v2 => c n105 [v2] s fun v3 s => binK .add (r q3) v3 fun v4 => K [v4] s)
 .ret))), [(.tmp q2)], [q0], [q4, q5, q6, q7, q8, q9, q10, q11, q12, q13, q14]⟩
/- internal/strconv.bool2[int] -/
noncomputable def cf105 : HF := ⟨
(.seq (.reg [q2] fun c r s K => K [I0] s)
 (.seq (.seq (.reg [q3] fun c r s K => K [(r q0)] s)
 (.cond (.t q3) (.seq (.reg [q2] fun c r s K => K [I1] s)
 .ret)
 .skip))
 (.seq (.reg [q2] fun c r s K => K [I0] s)
 .ret))), [(.tmp q2)], [q0], []⟩
/- internal/strconv.log10Pow2 -/
noncomputable def cf104 : HF := ⟨
(.seq (.reg [q2] fun c r s K => K [I0] s)
 (.seq (.reg [q2] fun c r s K => binK .mul (r q0) (i6 (nat_lit 78913)) fun v0 => xS false v0 U18 c r s fun v1 s => K [v1] s)
 .ret)), [(.tmp q2)], [q0], [q3, q4, q5]⟩
/- internal/strconv.small -/
noncomputable def cf91 : HF := ⟨
(.seq (.reg [q2] fun c r s K => (fun v0 => K [v0] s) (.sc (.lit (.string ⟨#[]⟩))))
 (.seq (.seq (.reg [q4] fun c r s K => binK .lss (r q0) I10 fun v0 => K [v0] s)
 (.cond (.t q4) (.seq (.reg [q2] fun c r s K => binK .add (r q0) I1 fun v0 => h_op3_sliceT (.c (.sc (.lit (.string ⟨#[48, 49, 50, 51, 52, 53, 54, 55, 56, 57, 97, 98, 99, 100, 101, 102, 103, 104, 105, 106, 107, 108, 109, 110, 111, 112, 113, 114, 115, 116, 117, 118, 119, 120, 121, 122]⟩)))) (some (.c (r q0))) (some (.c v0)) c r s fun v1 s => K [v1] s)
 .ret)
 .skip))
 (.seq (.reg [q2] fun c r s K => binK .mul (r q0) I2 fun v0 => binK .mul (r q0) I2 fun v1 => binK .add v1 I2 fun v2 => h_op3_sliceT (.c (.sc (.lit (.string ⟨#[48, 48, 48, 49, 48, 50, 48, 51, 48, 52, 48, 53, 48, 54, 48, 55, 48, 56, 48, 57, 49, 48, 49, 49, 49, 50, 49, 51, 49, 52, 49, 53, 49, 54, 49, 55, 49, 56, 49, 57, 50, 48, 50, 49, 50, 50, 50, 51, 50, 52, 50, 53, 50, 54, 50, 55, 50, 56, 50, 57, 51, 48, 51, 49, 51, 50, 51, 51, 51, 52, 51, 53, 51, 54, 51, 55, 51, 56, 51, 57, 52, 48, 52, 49, 52, 50, 52, 51, 52, 52, 52, 53, 52, 54, 52, 55, 52, 56, 52, 57, 53, 48, 53, 49, 53, 50, 53, 51, 53, 52, 53, 53, 53, 54, 53, 55, 53, 56, 53, 57, 54, 48, 54, 49, 54, 50, 54, 51, 54, 52, 54, 53, 54, 54, 54, 55, 54, 56, 54, 57, 55, 48, 55, 49, 55, 50, 55, 51, 55, 52, 55, 53, 55, 54, 55, 55, 55, 56, 55, 57, 56, 48, 56, 49, 56, 50, 56, 51, 56, 52, 56, 53, 56, 54, 56, 55, 56, 56, 56, 57, 57, 48, 57, 49, 57, 50, 57, 51, 57, 52, 57, 53, 57, 54, 57, 55, 57, 56, 57, 57]⟩)))) (some (.c v0)) (some (.c v2)) c r s fun v3 s => K [v3] s)
 .ret))), [(.tmp q2)], [q0], [q3, q5, q6, q7, q8, q9, q10, q11, q12, q13, q14]⟩
/- attestor/mono.order -/
noncomputable def cf37 : HF := ⟨
(.seq (.reg [q2, q3, q4] fun c r s K => bxx s (r q0) fun v0 s => bxx s (r q1) fun v1 s => K [v0, v1, I0] s)
 (.seq (.drw [q4] fun c r s K => (fun z m => fad n0 (r q2) fun v0 => dL z m n2 n1 s v0 fun v1 m s => fad n0 (r q3) fun v2 => dL z m n8 n4 s v2 fun v3 m s => dw3 m n16 n15 s (fun s q => c n62 [v1, v3] s q) fun v4 m s => fad n1 (r q2) fun v5 => dL z m n64 n32 s v5 fun v6 m s => fad n1 (r q3) fun v7 => dL z m (nat_lit 256) n128 s v7 fun v8 m s => dw3 m (nat_lit 512) (nat_lit 511) s (fun s q => c n63 [v6, v8] s q) fun v9 m s => dw1 m (nat_lit 1024) (fun q => h_op3_buildS n2 n1 [zi, zi] [(n0, n1, (.c v4)), (n1, n1, (.c v9))] c r s q) fun v10 m s => dw3 m (nat_lit 2048) (nat_lit 2047) s (fun s q => c n61 [v10] s q) fun v11 m s => K [v11] s) s.next mk0)
 .ret)), [(.tmp q4)], [q0, q1], [q5, q6, q7, q8, q9, q10, q11, q12, q13, q14, q15, q16]⟩
/- cmp.Compare[attestor/api.VarKind] -/
noncomputable def cf62 : HF := ⟨
(.seq (.reg [q4] fun c r s K => K [I0] s)
 (.seq (.reg [q5] fun c r s K => c n77 [(r q0)] s fun v0 s => K [v0] s)
 (.seq (.reg [q6] fun c r s K => c n77 [(r q1)] s fun v0 s => K [v0] s)
 (.seq (.seq (.reg [q11] fun c r s K => K [(r q5)] s)
 (.cond (.t q11) (.seq (.seq (.reg [q12] fun c r s K => K [(r q6)] s)
 (.cond (.t q12) (.seq (.reg [q4] fun c r s K => K [I0] s)
 .ret)
 .skip))
 (.seq (.reg [q4] fun c r s K => (fun v0 => K [v0] s) (.sc (.int .i64 (.negSucc n0))))
 .ret))
 .skip))
 (.seq (.seq (.reg [q13] fun c r s K => K [(r q6)] s)
 (.cond (.t q13) (.seq (.reg [q4] fun c r s K => K [I1] s)
 .ret)
 .skip))
 (.seq (.seq (.reg [q16] fun c r s K => binK .lss (r q0) (r q1) fun v0 => K [v0] s)
 (.cond (.t q16) (.seq (.reg [q4] fun c r s K => (fun v0 => K [v0] s) (.sc (.int .i64 (.negSucc n0))))
 .ret)
 .skip))
 (.seq (.seq (.reg [q19] fun c r s K => binK .gtr (r q0) (r q1) fun v0 => K [v0] s)
 (.cond (.t q19) (.seq (.reg [q4] fun c r s K => K [I1] s)
 .ret)
 .skip))
 (.seq (.reg [q4] fun c r s K => K [I0] s)
 .ret)))))))), [(.tmp q4)], [q0, q1], [q7, q8, q9, q10, q14, q15, q17, q18]⟩
/- cmp.isNaN[attestor/api.VarKind] -/
noncomputable def cf77 : HF := ⟨
(.seq (.reg [q2] fun c r s K => K [ff] s)
 (.seq (.reg [q2] fun c r s K => binK .neq (r q0) (r q0) fun v0 => K [v0] s)
 .ret)), [(.tmp q2)], [q0], [q3, q4, q5]⟩
/- slices.SortedStableFunc[attestor/api.Var] -/
noncomputable def cf35 : HF := ⟨
(.seq (.reg [q4] fun c r s K => K [(.sc zn)] s)
 (.seq (.reg [q5] fun c r s K => c n58 [(r q0)] s fun v0 s => K [v0] s)
 (.seq (.reg [] fun c r s K => c n59 [(r q5), (r q1)] s fun v0 s => K [] s)
 (.seq (.reg [q4] fun c r s K => K [(r q5)] s)
 .ret)))), [(.tmp q4)], [q0, q1], [q6, q7, q8, q9, q10, q11]⟩
/- slices.SortStableFunc[[]attestor/api.Var,attestor/api.Var] -/
noncomputable def cf59 : HF := ⟨
(.reg [] fun c r s K => lnS (r q0) fun v0 => c n76 [(r q0), v0, (r q1)] s fun v1 s => K [] s), [], [q0, q1], [q4, q5, q6, q7, q8]⟩
/- slices.stableCmpFunc[attestor/api.Var] -/
noncomputable def cf76 : HF := ⟨
(.seq (.reg [q6] fun c r s K => K [I20] s)
 (.seq (.reg [q7, q8] fun c r s K => K [I0, (r q6)] s)
 (.seq (.block n0 (.loop (.seq (.seq (.reg [q13] fun c r s K => binK .leq (r q8) (r q1) fun v0 => K [v0] s)
 (.cond (.t q13) .skip
 (.exit n0)))
 (.block n1 (.seq (.reg [] fun c r s K => c n96 [(r q0), (r q7), (r q8), (r q2)] s fun v0 s => K [] s)
 (.seq (.reg [q7] fun c r s K => K [(r q8)] s)
 (.reg [q8] fun c r s K => binK .add (r q8) (r q6) fun v0 => K [v0] s)))))))
 (.seq (.reg [] fun c r s K => c n96 [(r q0), (r q7), (r q1), (r q2)] s fun v0 s => K [] s)
 (.block n2 (.loop (.seq (.seq (.reg [q30] fun c r s K => binK .lss (r q6) (r q1) fun v0 => K [v0] s)
 (.cond (.t q30) .skip
 (.exit n2)))
 (.block n3 (.seq (.reg [q7, q8] fun c r s K => binK .mul I2 (r q6) fun v0 => K [I0, v0] s)
 (.seq (.block n4 (.loop (.seq (.seq (.reg [q35] fun c r s K => binK .leq (r q8) (r q1) fun v0 => K [v0] s)
 (.cond (.t q35) .skip
 (.exit n4)))
 (.block n5 (.seq (.reg [] fun c r s K => binK .add (r q7) (r q6) fun v0 => c n97 [(r q0), (r q7), v0, (r q8), (r q2)] s fun v1 s => K [] s)
 (.seq (.reg [q7] fun c r s K => K [(r q8)] s)
 (.reg [q8] fun c r s K => binK .mul I2 (r q6) fun v0 => binK .add (r q8) v0 fun v1 => K [v1] s)))))))
 (.seq (.seq (.reg [q9] fun c r s K => binK .add (r q7) (r q6) fun v0 => K [v0] s)
 (.seq (.reg [q54] fun c r s K => binK .lss (r q9) (r q1) fun v0 => K [v0] s)
 (.cond (.t q54) (.reg [] fun c r s K => c n97 [(r q0), (r q7), (r q9), (r q1), (r q2)] s fun v0 s => K [] s)
 .skip)))
 (.reg [q6] fun c r s K => binK .mul (r q6) I2 fun v0 => K [v0] s)))))))))))), [], [q0, q1, q2], [q10, q11, q12, q14, q15, q16, q17, q18, q19, q20, q21, q22, q23, q24, q25, q26, q27, q28, q29, q31, q32, q33, q34, q36, q37, q38, q39, q40, q41, q42, q43, q44, q45, q46, q47, q48, q49, q50, q51, q52, q53, q55, q56, q57, q58, q59, q60, q61, q62]⟩
/- slices.symMergeCmpFunc[attestor/api.Var] -/
noncomputable def cf97 : HF := ⟨
(.seq (.seq (.reg [q28] fun c r s K => binK .sub (r q2) (r q1) fun v0 => binK .eql v0 I1 fun v1 => K [v1] s)
 (.cond (.t q28) (.seq (.reg [q10] fun c r s K => K [(r q2)] s)
 (.seq (.reg [q11] fun c r s K => K [(r q3)] s)
 (.seq (.block n0 (.loop (.seq (.seq (.reg [q33] fun c r s K => binK .lss (r q10) (r q11) fun v0 => K [v0] s)
 (.cond (.t q33) .skip
 (.exit n0)))
 (.block n1 (.seq (.reg [q12] fun c r s K => binK .add (r q10) (r q11) fun v0 => cnv .u64 v0 fun v1 => xS false v1 U1 c r s fun v2 s => cnv .i64 v2 fun v3 => K [v3] s)
 (.seq (.drw [q50] fun c r s K => (fun z m => ixs n2 (r q0) (r q12) fun v0 => dN z m n16 n14 s n2 v0 fun v1 m s => ixs n2 (r q0) (r q1) fun v2 => dN z m (nat_lit 256) (nat_lit 224) s n2 v2 fun v3 m s => dw3 m (nat_lit 512) (nat_lit 511) s (fun s q => h_op4_callV (.c (r q4)) [(.c v1), (.c v3)] c r s q) fun v4 m s => binK .lss v4 I0 fun v5 => K [v5] s) s.next mk0)
 (.cond (.t q50) (.reg [q10] fun c r s K => binK .add (r q12) I1 fun v0 => K [v0] s)
 (.reg [q11] fun c r s K => K [(r q12)] s))))))))
 (.seq (.seq (.reg [q13] fun c r s K => K [(r q1)] s)
 (.block n2 (.loop (.seq (.seq (.reg [q58] fun c r s K => binK .sub (r q10) I1 fun v0 => binK .lss (r q13) v0 fun v1 => K [v1] s)
 (.cond (.t q58) .skip
 (.exit n2)))
 (.seq (.block n3 (.drw [] fun c r s K => (fun z m => binK .add (r q13) I1 fun v0 => binK .add (r q13) I1 fun v1 => ixs n2 (r q0) v1 fun v2 => dN z m (nat_lit 512) (nat_lit 480) s n2 v2 fun v3 m s => ixs n2 (r q0) (r q13) fun v4 => dN z m (nat_lit 8192) (nat_lit 7168) s n2 v4 fun v5 m s => ixs n2 (r q0) (r q13) fun v6 => dS z m (nat_lit 32768) (nat_lit 32739) s n2 v6 v3 fun _ m s => ixs n2 (r q0) v0 fun v8 => dS z m (nat_lit 131072) (nat_lit 131071) s n2 v8 v5 fun _ m s => K [] s) s.next mk0))
 (.reg [q13] fun c r s K => binK .add (r q13) I1 fun v0 => K [v0] s))))))
 .ret))))
 .skip))
 (.seq (.seq (.reg [q80] fun c r s K => binK .sub (r q3) (r q2) fun v0 => binK .eql v0 I1 fun v1 => K [v1] s)
 (.cond (.t q80) (.seq (.reg [q14] fun c r s K => K [(r q1)] s)
 (.seq (.reg [q15] fun c r s K => K [(r q2)] s)
 (.seq (.block n4 (.loop (.seq (.seq (.reg [q85] fun c r s K => binK .lss (r q14) (r q15) fun v0 => K [v0] s)
 (.cond (.t q85) .skip
 (.exit n4)))
 (.block n5 (.seq (.reg [q16] fun c r s K => binK .add (r q14) (r q15) fun v0 => cnv .u64 v0 fun v1 => xS false v1 U1 c r s fun v2 s => cnv .i64 v2 fun v3 => K [v3] s)
 (.seq (.drw [q103] fun c r s K => (fun z m => ixs n2 (r q0) (r q2) fun v0 => dN z m n16 n14 s n2 v0 fun v1 m s => ixs n2 (r q0) (r q16) fun v2 => dN z m (nat_lit 256) (nat_lit 224) s n2 v2 fun v3 m s => dw3 m (nat_lit 512) (nat_lit 511) s (fun s q => h_op4_callV (.c (r q4)) [(.c v1), (.c v3)] c r s q) fun v4 m s => binK .lss v4 I0 fun v5 => nott v5 fun v6 => K [v6] s) s.next mk0)
 (.cond (.t q103) (.reg [q14] fun c r s K => binK .add (r q16) I1 fun v0 => K [v0] s)
 (.reg [q15] fun c r s K => K [(r q16)] s))))))))
 (.seq (.seq (.reg [q17] fun c r s K => K [(r q2)] s)
 (.block n6 (.loop (.seq (.seq (.reg [q110] fun c r s K => binK .gtr (r q17) (r q14) fun v0 => K [v0] s)
 (.cond (.t q110) .skip
 (.exit n6)))
 (.seq (.block n7 (.drw [] fun c r s K => (fun z m => binK .sub (r q17) I1 fun v0 => binK .sub (r q17) I1 fun v1 => ixs n2 (r q0) v1 fun v2 => dN z m (nat_lit 512) (nat_lit 480) s n2 v2 fun v3 m s => ixs n2 (r q0) (r q17) fun v4 => dN z m (nat_lit 8192) (nat_lit 7168) s n2 v4 fun v5 m s => ixs n2 (r q0) (r q17) fun v6 => dS z m (nat_lit 32768) (nat_lit 32739) s n2 v6 v3 fun _ m s => ixs n2 (r q0) v0 fun v8 => dS z m (nat_lit 131072) (nat_lit 131071) s n2 v8 v5 fun _ m s => K [] s) s.next mk0))
 (.reg [q17] fun c r s K => binK .sub (r q17) I1 fun v0 => K [v0] s))))))
 .ret))))
 .skip))
 (.seq (.reg [q18] fun c r s K => binK .add (r q1) (r q3) fun v0 => cnv .u64 v0 fun v1 => xS false v1 U1 c r s fun v2 s => cnv .i64 v2 fun v3 => K [v3] s)
 (.seq (.reg [q19] fun c r s K => binK .add (r q18) (r q2) fun v0 => K [v0] s)
 (.seq (.reg [q20, q21] fun c r s K => K [I0, I0] s)
 (.seq (.seq (.reg [q140] fun c r s K => binK .gtr (r q2) (r q18) fun v0 => K [v0] s)
 (.cond (.t q140) (.seq (.reg [q20] fun c r s K => binK .sub (r q19) (r q3) fun v0 => K [v0] s)
 (.reg [q21] fun c r s K => K [(r q18)] s))
 (.seq (.reg [q20] fun c r s K => K [(r q1)] s)
 (.reg [q21] fun c r s K => K [(r q2)] s))))
 (.seq (.reg [q22] fun c r s K => binK .sub (r q19) I1 fun v0 => K [v0] s)
 (.seq (.block n8 (.loop (.seq (.seq (.reg [q151] fun c r s K => binK .lss (r q20) (r q21) fun v0 => K [v0] s)
 (.cond (.t q151) .skip
 (.exit n8)))
 (.block n9 (.seq (.reg [q23] fun c r s K => binK .add (r q20) (r q21) fun v0 => cnv .u64 v0 fun v1 => xS false v1 U1 c r s fun v2 s => cnv .i64 v2 fun v3 => K [v3] s)
 (.seq (.drw [q171] fun c r s K => (fun z m => binK .sub (r q22) (r q23) fun v0 => ixs n2 (r q0) v0 fun v1 => dN z m n64 n62 s n2 v1 fun v2 m s => ixs n2 (r q0) (r q23) fun v3 => dN z m (nat_lit 1024) (nat_lit 896) s n2 v3 fun v4 m s => dw3 m (nat_lit 2048) (nat_lit 2047) s (fun s q => h_op4_callV (.c (r q4)) [(.c v2), (.c v4)] c r s q) fun v5 m s => binK .lss v5 I0 fun v6 => nott v6 fun v7 => K [v7] s) s.next mk0)
 (.cond (.t q171) (.reg [q20] fun c r s K => binK .add (r q23) I1 fun v0 => K [v0] s)
 (.reg [q21] fun c r s K => K [(r q23)] s))))))))
 (.seq (.reg [q24] fun c r s K => binK .sub (r q19) (r q20) fun v0 => K [v0] s)
 (.seq (.seq (.reg [q185] fun c r s K => binK .lss (r q20) (r q2) fun v0 => mt v0 (r q2) s fun v1 s => mt v0 (r q24) s fun v2 s => jt v0 (binK .lss v1 v2) s fun v3 s => pck v0 v3 ff fun v4 => K [v4] s)
 (.cond (.t q185) (.reg [] fun c r s K => c n108 [(r q0), (r q20), (r q2), (r q24), (r q4)] s fun v0 s => K [] s)
 .skip))
 (.seq (.seq (.reg [q199] fun c r s K => binK .lss (r q1) (r q20) fun v0 => mt v0 (r q20) s fun v1 s => mt v0 (r q18) s fun v2 s => jt v0 (binK .lss v1 v2) s fun v3 s => pck v0 v3 ff fun v4 => K [v4] s)
 (.cond (.t q199) (.reg [] fun c r s K => c n97 [(r q0), (r q1), (r q20), (r q18), (r q4)] s fun v0 s => K [] s)
 .skip))
 (.seq (.reg [q213] fun c r s K => binK .lss (r q18) (r q24) fun v0 => mt v0 (r q24) s fun v1 s => mt v0 (r q3) s fun v2 s => jt v0 (binK .lss v1 v2) s fun v3 s => pck v0 v3 ff fun v4 => K [v4] s)
 (.cond (.t q213) (.reg [] fun c r s K => c n97 [(r q0), (r q18), (r q24), (r q3), (r q4)] s fun v0 s => K [] s)
 .skip))))))))))))), [], [q0, q1, q2, q3, q4], [q25, q26, q27, q29, q30, q31, q32, q34, q35, q36, q37, q38, q39, q40, q41, q42, q43, q44, q45, q46, q47, q48, q49, q51, q52, q53, q54, q55, q56, q57, q61, q62, q63, q64, q65, q66, q67, q68, q69, q70, q71, q72, q73, q74, q75, q76, q59, q60, q77, q78, q79, q81, q82, q83, q84, q86, q87, q88, q89, q90, q91, q92, q93, q94, q95, q96, q97, q98, q99, q100, q101, q102, q104, q105, q106, q107, q108, q109, q113, q114, q115, q116, q117, q118, q119, q120, q121, q122, q123, q124, q125, q126, q127, q128, q111, q112, q129, q130, q131, q132, q133, q134, q135, q136, q137, q138, q139, q141, q142, q143, q144, q145, q146, q147, q148, q149, q150, q152, q153, q154, q155, q156, q157, q158, q159, q160, q161, q162, q163, q164, q165, q166, q167, q168, q169, q170, q172, q173, q174, q175, q176, q177, q178, q179, q180, q181, q182, q183, q184, q186, q187, q188, q189, q190, q191, q192, q193, q194, q195, q196, q197, q198, q200, q201, q202, q203, q204, q205, q206, q207, q208, q209, q210, q211, q212, q214, q215, q216, q217, q218, q219]⟩
/- slices.rotateCmpFunc[attestor/api.Var] -/
noncomputable def cf108 : HF := ⟨
(.seq (.reg [q10] fun c r s K => binK .sub (r q2) (r q1) fun v0 => K [v0] s)
 (.seq (.reg [q11] fun c r s K => binK .sub (r q3) (r q2) fun v0 => K [v0] s)
 (.seq (.block n0 (.loop (.seq (.seq (.reg [q20] fun c r s K => binK .neq (r q10) (r q11) fun v0 => K [v0] s)
 (.cond (.t q20) .skip
 (.exit n0)))
 (.block n1 (.seq (.reg [q23] fun c r s K => binK .gtr (r q10) (r q11) fun v0 => K [v0] s)
 (.cond (.t q23) (.seq (.reg [] fun c r s K => binK .sub (r q2) (r q10) fun v0 => c n112 [(r q0), v0, (r q2), (r q11), (r q4)] s fun v1 s => K [] s)
 (.reg [q10] fun c r s K => binK .sub (r q10) (r q11) fun v0 => K [v0] s))
 (.seq (.reg [] fun c r s K => binK .sub (r q2) (r q10) fun v0 => binK .add (r q2) (r q11) fun v1 => binK .sub v1 (r q10) fun v2 => c n112 [(r q0), v0, v2, (r q10), (r q4)] s fun v3 s => K [] s)
 (.reg [q11] fun c r s K => binK .sub (r q11) (r q10) fun v0 => K [v0] s))))))))
 (.reg [] fun c r s K => binK .sub (r q2) (r q10) fun v0 => c n112 [(r q0), v0, (r q2), (r q10), (r q4)] s fun v1 s => K [] s)))), [], [q0, q1, q2, q3, q4], [q12, q13, q14, q15, q16, q17, q18, q19, q21, q22, q24, q25, q26, q27, q28, q29, q30, q31, q32, q33, q34, q35, q36, q37, q38, q39, q40, q41, q42, q43, q44, q45, q46, q47, q48, q49, q50, q51, q52, q53, q54, q55, q56, q57]⟩
/- slices.swapRangeCmpFunc[attestor/api.Var] -/
noncomputable def cf112 : HF := ⟨
(.seq (.reg [q10] fun c r s K => K [I0] s)
 (.block n0 (.loop (.seq (.seq (.reg [q13] fun c r s K => binK .lss (r q10) (r q3) fun v0 => K [v0] s)
 (.cond (.t q13) .skip
 (.exit n0)))
 (.seq (.block n1 (.drw [] fun c r s K => (fun z m => binK .add (r q1) (r q10) fun v0 => binK .add (r q2) (r q10) fun v1 => binK .add (r q2) (r q10) fun v2 => ixs n2 (r q0) v2 fun v3 => dN z m (nat_lit 8192) (nat_lit 7936) s n2 v3 fun v4 m s => binK .add (r q1) (r q10) fun v5 => ixs n2 (r q0) v5 fun v6 => dN z m (nat_lit 524288) (nat_lit 507904) s n2 v6 fun v7 m s => ixs n2 (r q0) v0 fun v8 => dS z m (nat_lit 2097152) (nat_lit 2096911) s n2 v8 v4 fun _ m s => ixs n2 (r q0) v1 fun v10 => dS z m (nat_lit 8388608) (nat_lit 8388607) s n2 v10 v7 fun _ m s => K [] s) s.next mk0))
 (.reg [q10] fun c r s K => binK .add (r q10) I1 fun v0 => K [v0] s)))))), [], [q0, q1, q2, q3, q4], [q11, q12, q16, q17, q18, q19, q20, q21, q22, q23, q24, q25, q26, q27, q28, q29, q30, q31, q32, q33, q34, q35, q36, q37, q14, q15]⟩
/- slices.insertionSortCmpFunc[attestor/api.Var] -/
noncomputable def cf96 : HF := ⟨
(.seq (.reg [q8] fun c r s K => binK .add (r q1) I1 fun v0 => K [v0] s)
 (.block n0 (.loop (.seq (.seq (.reg [q14] fun c r s K => binK .lss (r q8) (r q2) fun v0 => K [v0] s)
 (.cond (.t q14) .skip
 (.exit n0)))
 (.seq (.block n1 (.seq (.reg [q9] fun c r s K => K [(r q8)] s)
 (.block n2 (.loop (.seq (.seq (.drw [q34] fun c r s K => (fun z m => binK .gtr (r q9) (r q1) fun v0 => jnD true v0 (fun jj => jj (r q3) m s) m s fun v1 m s => jnD true v0 (fun jj => jj (r q0) m s) m s fun v2 m s => jnD true v0 (fun jj => jj (r q9) m s) m s fun v3 m s => jnD true v0 (fun jj => ixs n2 v2 v3 fun v => jj v m s) m s fun v4 m s => jnD true v0 (fun jj => dN z m (nat_lit 256) (nat_lit 239) s n2 v4 jj) m s fun v5 m s => jnD true v0 (fun jj => jj (r q0) m s) m s fun v6 m s => jnD true v0 (fun jj => jj (r q9) m s) m s fun v7 m s => jnD true v0 (fun jj => binK .sub v7 I1 fun v => jj v m s) m s fun v8 m s => jnD true v0 (fun jj => ixs n2 v6 v8 fun v => jj v m s) m s fun v9 m s => jnD true v0 (fun jj => dN z m (nat_lit 8192) (nat_lit 7695) s n2 v9 jj) m s fun v10 m s => jnD true v0 (fun jj => dw3 m (nat_lit 16384) (nat_lit 16383) s (fun s q => h_op4_callV (.c v1) [(.c v5), (.c v10)] c r s q) jj) m s fun v11 m s => jnD true v0 (fun jj => binK .lss v11 I0 fun v => jj v m s) m s fun v12 m s => pck v0 v12 ff fun v13 => K [v13] s) s.next mk0)
 (.cond (.t q34) .skip
 (.exit n2)))
 (.seq (.block n3 (.drw [] fun c r s K => (fun z m => binK .sub (r q9) I1 fun v0 => binK .sub (r q9) I1 fun v1 => ixs n2 (r q0) v1 fun v2 => dN z m (nat_lit 512) (nat_lit 480) s n2 v2 fun v3 m s => ixs n2 (r q0) (r q9) fun v4 => dN z m (nat_lit 8192) (nat_lit 7168) s n2 v4 fun v5 m s => ixs n2 (r q0) (r q9) fun v6 => dS z m (nat_lit 32768) (nat_lit 32739) s n2 v6 v3 fun _ m s => ixs n2 (r q0) v0 fun v8 => dS z m (nat_lit 131072) (nat_lit 131071) s n2 v8 v5 fun _ m s => K [] s) s.next mk0))
 (.reg [q9] fun c r s K => binK .sub (r q9) I1 fun v0 => K [v0] s)))))))
 (.reg [q8] fun c r s K => binK .add (r q8) I1 fun v0 => K [v0] s)))))), [], [q0, q1, q2, q3], [q10, q11, q12, q13, q17, q18, q19, q20, q21, q22, q23, q24, q25, q26, q27, q28, q29, q30, q31, q32, q33, q37, q38, q39, q40, q41, q42, q43, q44, q45, q46, q47, q48, q49, q50, q51, q52, q35, q36, q15, q16]⟩
/- slices.Collect[attestor/api.Var] -/
noncomputable def cf58 : HF := ⟨
(.seq (.reg [q2] fun c r s K => K [(.sc zn)] s)
 (.seq (.reg [q2] fun c r s K => c n75 [(.sc zn), (r q0)] s fun v0 s => K [v0] s)
 .ret)), [(.tmp q2)], [q0], [q3, q4]⟩
/- slices.AppendSeq[[]attestor/api.Var,attestor/api.Var] -/
noncomputable def cf75 : HF := ⟨
(.seq (.reg [q2, q4] fun c r s K => bxx s (r q0) fun v0 s => K [v0, (.sc zn)] s)
 (.seq (.seq (.reg [q6] fun c r s K => K [(r q1)] s)
 (.block n0 (.rng n75 n0 (.t q6) [q7] (.reg [q5] fun c r s K => alc s [zb, zi] fun v0 s => sto s n2 v0 (r q7) fun s => K [v0] s)
 (.block n1 (.reg [] fun c r s K => ld s (r q2) fun v0 => lN s n2 (r q5) fun v1 => h_op3_buildS n1 n2 [zb, zi] [(n0, n2, (.c v1))] c r s fun v2 s => xA n2 n16 v0 v2 c r s fun v3 s => sto s n1 (r q2) v3 fun s => K [] s)))))
 (.seq (.reg [q4] fun c r s K => ld s (r q2) fun v0 => K [v0] s)
 .ret))), [(.tmp q4)], [q0, q1], [q8, q9, q10, q11, q12]⟩
/- slices.Values[[]attestor/api.Var,attestor/api.Var] -/
noncomputable def cf36 : HF := ⟨
(.seq (.reg [q1, q2] fun c r s K => bxx s (r q0) fun v0 s => K [v0, (.sc (.lit .nilFunc))] s)
 (.seq (.reg [q2] fun c r s K => h_op4_makeFunc n60 [(.c (r q1))] c r s fun v0 s => K [v0] s)
 .ret)), [(.tmp q2)], [q0], [q3]⟩
/- slices.Values[[]attestor/api.Var,attestor/api.Var]$1 -/
noncomputable def cf60 : HF := ⟨
(.seq (.reg [q5, q6, q7] fun c r s K => ld s (r q1) fun v0 => lnS v0 fun v1 => K [v0, v1, I0] s)
 (.block n0 (.loop (.seq (.reg [q8] fun c r s K => binK .lss (r q7) (r q6) fun v0 => K [v0] s)
 (.seq (.cond (.t q8) .skip
 (.exit n0))
 (.seq (.block n1 (.seq (.reg [q4] fun c r s K => ixs n2 (r q5) (r q7) fun v0 => lN s n2 v0 fun v1 => alc s [zb, zi] fun v2 s => sto s n2 v2 v1 fun s => K [v2] s)
 (.seq (.reg [q14] fun c r s K => lN s n2 (r q4) fun v0 => h_op4_callV (.c (r q0)) [(.c v0)] c r s fun v1 s => nott v1 fun v2 => K [v2] s)
 (.cond (.t q14) .ret
 .skip))))
 (.reg [q7] fun c r s K => binK .add (r q7) I1 fun v0 => K [v0] s))))))), [], [q0, q1], [q9, q10, q11, q12, q13, q15]⟩
/- attestor/mono.Mul$1 -/
noncomputable def cf29 : HF := ⟨
(.seq (.reg [q4, q5] fun c r s K => bxx s (r q0) fun v0 s => bxx s (r q1) fun v1 s => K [v0, v1] s)
 (.drw [] fun c r s K => (fun z m => dL z m n1 n0 s (r q2) fun v0 m s => dL z m n2 n0 s (r q3) fun v1 m s => fad n0 (r q4) fun v2 => dL z m n8 n4 s v2 fun v3 m s => fad n0 (r q5) fun v4 => dL z m n32 n16 s v4 fun v5 m s => dw3 m n64 n62 s (fun s q => c n30 [v1, v3, v5] s q) fun v6 m s => fad n1 (r q4) fun v7 => dL z m (nat_lit 256) n128 s v7 fun v8 m s => fad n1 (r q5) fun v9 => dL z m (nat_lit 1024) (nat_lit 512) s v9 fun v10 m s => dw1 m (nat_lit 2048) (fun q => h_op3_buildS n2 n1 [zn, zn] [(n0, n1, (.c v8)), (n1, n1, (.c v10))] c r s q) fun v11 m s => dw3 m (nat_lit 4096) (nat_lit 4094) s (fun s q => c n31 [v11] s q) fun v12 m s => h_op3_build [zu, zn] [(n0, n1, (.c v6)), (n1, n1, (.c v12))] c r s fun v13 s => dw1 m (nat_lit 16384) (fun q => h_op3_buildS n1 n2 [zu, zn] [(n0, n2, (.c v13))] c r s q) fun v14 m s => dw5 z m (nat_lit 32768) (nat_lit 32767) s (.more (.more (.append n2 n32 (.c v0) (.c v14)))) r (fun s q => xA n2 n32 v0 v14 c r s q) fun v15 m s => dS z m (nat_lit 65536) (nat_lit 65535) s n1 (r q2) v15 fun _ m s => K [] s) s.next mk0)), [], [q0, q1, q2, q3], [q6, q7, q8, q9, q10, q11, q12, q13, q14, q15, q16, q17, q18, q19, q20, q21]⟩
/- slices.Concat[[]attestor/api.Var,attestor/api.Var] -/
noncomputable def cf31 : HF := ⟨
(.seq (.reg [q2] fun c r s K => K [(.sc zn)] s)
 (.seq (.reg [q3] fun c r s K => K [I0] s)
 (.seq (.seq (.reg [q9, q10, q11] fun c r s K => lnS (r q0) fun v0 => K [(r q0), v0, I0] s)
 (.block n0 (.loop (.seq (.reg [q12] fun c r s K => binK .lss (r q11) (r q10) fun v0 => K [v0] s)
 (.seq (.cond (.t q12) .skip
 (.exit n0))
 (.seq (.block n1 (.seq (.reg [q5] fun c r s K => ixs n1 (r q9) (r q11) fun v0 => ld s v0 fun v1 => K [v1] s)
 (.seq (.reg [q3] fun c r s K => lnS (r q5) fun v0 => binK .add (r q3) v0 fun v1 => K [v1] s)
 (.seq (.reg [q20] fun c r s K => binK .lss (r q3) I0 fun v0 => K [v0] s)
 (.cond (.t q20) (.reg [] fun c r s K => h_op4_iface n9 (.c (.sc (.lit (.string ⟨#[108, 101, 110, 32, 111, 117, 116, 32, 111, 102, 32, 114, 97, 110, 103, 101]⟩)))) c r s fun v0 s => h_op4_bad n102 c r s fun _ s => K [] s)
 .skip)))))
 (.reg [q11] fun c r s K => binK .add (r q11) I1 fun v0 => K [v0] s)))))))
 (.seq (.reg [q6] fun c r s K => c n57 [(.sc zn), (r q3)] s fun v0 s => K [v0] s)
 (.seq (.seq (.reg [q25, q26, q27] fun c r s K => lnS (r q0) fun v0 => K [(r q0), v0, I0] s)
 (.block n2 (.loop (.seq (.reg [q28] fun c r s K => binK .lss (r q27) (r q26) fun v0 => K [v0] s)
 (.seq (.cond (.t q28) .skip
 (.exit n2))
 (.seq (.block n3 (.seq (.reg [q8] fun c r s K => ixs n1 (r q25) (r q27) fun v0 => ld s v0 fun v1 => K [v1] s)
 (.reg [q6] fun c r s K => xA n2 n16 (r q6) (r q8) c r s fun v0 s => K [v0] s)))
 (.reg [q27] fun c r s K => binK .add (r q27) I1 fun v0 => K [v0] s)))))))
 (.seq (.reg [q2] fun c r s K => K [(r q6)] s)
 .ret)))))), [(.tmp q2)], [q0], [q13, q14, q15, q16, q17, q18, q19, q21, q22, q23, q24, q29, q30, q31, q32, q33, q34, q35]⟩
/- slices.Grow[[]attestor/api.Var,attestor/api.Var] -/
noncomputable def cf57 : HF := ⟨
(.seq (.reg [q4] fun c r s K => K [(.sc zn)] s)
 (.seq (.seq (.reg [q6] fun c r s K => binK .lss (r q1) I0 fun v0 => K [v0] s)
 (.cond (.t q6) (.reg [] fun c r s K => h_op4_iface n9 (.c (.sc (.lit (.string ⟨#[99, 97, 110, 110, 111, 116, 32, 98, 101, 32, 110, 101, 103, 97, 116, 105, 118, 101]⟩)))) c r s fun v0 s => h_op4_bad n102 c r s fun _ s => K [] s)
 .skip))
 (.seq (.seq (.reg [q1] fun c r s K => h_op4_capOf (.c (r q0)) c r s fun v0 s => lnS (r q0) fun v1 => binK .sub v0 v1 fun v2 => binK .sub (r q1) v2 fun v3 => K [v3] s)
 (.seq (.reg [q16] fun c r s K => binK .gtr (r q1) I0 fun v0 => K [v0] s)
 (.cond (.t q16) (.reg [q0] fun c r s K => h_op4_capOf (.c (r q0)) c r s fun v0 s => h_op3_sliceS n2 (.c (r q0)) none (some (.c v0)) none c r s fun v1 s => h_op3_appendZ n2 n16 [zb, zi] (.c v1) (.c (r q1)) c r s fun v2 s => lnS (r q0) fun v3 => h_op3_sliceS n2 (.c v2) none (some (.c v3)) none c r s fun v4 s => K [v4] s)
 .skip)))
 (.seq (.reg [q4] fun c r s K => K [(r q0)] s)
 .ret)))), [(.tmp q4)], [q0, q1], [q5, q7, q8, q9, q10, q11, q12, q13, q14, q15, q17, q18, q19, q20, q21, q22, q23, q24, q25, q26]⟩
/- attestor/attestorlaw12.n0 -/
noncomputable def cf24 : HF := ⟨
(.seq (.reg [q0] fun c r s K => alc s [zb, zi] fun v0 s => K [v0] s)
 (.seq (.reg [] fun c r s K => h_op3_build [zb, zi] [(n0, n1, (.c B2))] c r s fun v0 s => sto s n2 (r q0) v0 fun s => K [] s)
 .ret)), [(.cellN n2 q0)], [], [q1]⟩
/- attestor/attestorlaw12.m0 -/
noncomputable def cf23 : HF := ⟨
(.seq (.reg [q0] fun c r s K => alc s [zb, zi] fun v0 s => K [v0] s)
 (.seq (.reg [] fun c r s K => h_op3_build [zb, zi] [(n0, n1, (.c B1))] c r s fun v0 s => sto s n2 (r q0) v0 fun s => K [] s)
 .ret)), [(.cellN n2 q0)], [], [q1]⟩
/- attestor/attestorlaw12.small -/
noncomputable def cf8 : HF := ⟨
(.seq (.reg [q2] fun c r s K => K [ff] s)
 (.seq (.seq (.reg [q6] fun c r s K => lnS (r q0) fun v0 => binK .gtr v0 I12 fun v1 => K [v1] s)
 (.cond (.t q6) (.seq (.reg [q2] fun c r s K => K [ff] s)
 .ret)
 .skip))
 (.seq (.seq (.reg [q3] fun c r s K => K [I0] s)
 (.block n0 (.loop (.seq (.seq (.reg [q10] fun c r s K => lnS (r q0) fun v0 => binK .lss (r q3) v0 fun v1 => K [v1] s)
 (.cond (.t q10) .skip
 (.exit n0)))
 (.seq (.block n1 (.seq (.reg [q19] fun c r s K => ixs n2 (r q0) (r q3) fun v0 => fad n1 v0 fun v1 => ld s v1 fun v2 => lnS v2 fun v3 => binK .gtr v3 I8 fun v4 => K [v4] s)
 (.cond (.t q19) (.seq (.reg [q2] fun c r s K => K [ff] s)
 .ret)
 .skip)))
 (.reg [q3] fun c r s K => binK .add (r q3) I1 fun v0 => K [v0] s))))))
 (.seq (.reg [q2] fun c r s K => K [tt] s)
 .ret)))), [(.tmp q2)], [q0], [q4, q5, q7, q8, q9, q13, q14, q15, q16, q17, q18, q11, q12]⟩
end Go.Proofs.YtgknegdikgdfeaaDoor.Ev
