/- Compiled functions of the translated program, and that each is what the compiler makes of it; no conditions. -/
import Derived.Test.YtffaehgicojjmaaDoorT0
import Derived.Test.YtffaehgicojjmaaDoorT1
import Derived.Test.YtffaehgicojjmaaDoorT2
import Derived.Test.YtffaehgicojjmaaDoorT3
import Derived.Test.YtffaehgicojjmaaDoorT4
import Derived.Test.YtffaehgicojjmaaDoorT5
import Derived.Test.YtffaehgicojjmaaDoorT6
import Derived.Test.YtffaehgicojjmaaDoorT7
import Derived.Test.YtffaehgicojjmaaDoorT8
import Derived.Test.YtffaehgicojjmaaDoorEvC
import Derived.Test.YtffaehgicojjmaaDoorProg
import Derived.KernelRfl
namespace Go.Proofs.YtffaehgicojjmaaDoor.Ev
set_option maxRecDepth 100000
theorem c3 : okF Go.Proofs.Tryd.prog (nat_lit 2) (nat_lit 3) cf3 := ⟨by kernel_rfl, by kernel_rfl⟩
theorem c9 : okF Go.Proofs.Tryd.prog (nat_lit 2) (nat_lit 9) cf9 := ⟨by kernel_rfl, by kernel_rfl⟩
theorem c8 : okF Go.Proofs.Tryd.prog (nat_lit 2) (nat_lit 8) cf8 := ⟨by kernel_rfl, by kernel_rfl⟩
theorem c23 : okF Go.Proofs.Tryd.prog (nat_lit 2) (nat_lit 23) cf23 := ⟨by kernel_rfl, by kernel_rfl⟩
theorem c46 : okF Go.Proofs.Tryd.prog (nat_lit 2) (nat_lit 46) cf46 := ⟨by kernel_rfl, by kernel_rfl⟩
theorem c24 : okF Go.Proofs.Tryd.prog (nat_lit 2) (nat_lit 24) cf24 := ⟨by kernel_rfl, by kernel_rfl⟩
theorem c7 : okF Go.Proofs.Tryd.prog (nat_lit 2) (nat_lit 7) cf7 := ⟨by kernel_rfl, by kernel_rfl⟩
theorem c6 : okF Go.Proofs.Tryd.prog (nat_lit 2) (nat_lit 6) cf6 := ⟨by kernel_rfl, by kernel_rfl⟩
theorem c16 : okF Go.Proofs.Tryd.prog (nat_lit 2) (nat_lit 16) cf16 := ⟨by kernel_rfl, by kernel_rfl⟩
theorem c22 : okF Go.Proofs.Tryd.prog (nat_lit 2) (nat_lit 22) cf22 := ⟨by kernel_rfl, by kernel_rfl⟩
theorem c21 : okF Go.Proofs.Tryd.prog (nat_lit 2) (nat_lit 21) cf21 := ⟨by kernel_rfl, by kernel_rfl⟩
theorem c20 : okF Go.Proofs.Tryd.prog (nat_lit 2) (nat_lit 20) cf20 := ⟨by kernel_rfl, by kernel_rfl⟩
theorem c19 : okF Go.Proofs.Tryd.prog (nat_lit 2) (nat_lit 19) cf19 := ⟨by kernel_rfl, by kernel_rfl⟩
theorem c18 : okF Go.Proofs.Tryd.prog (nat_lit 2) (nat_lit 18) cf18 := ⟨by kernel_rfl, by kernel_rfl⟩
theorem c17 : okF Go.Proofs.Tryd.prog (nat_lit 2) (nat_lit 17) cf17 := ⟨by kernel_rfl, by kernel_rfl⟩
theorem c45 : okF Go.Proofs.Tryd.prog (nat_lit 2) (nat_lit 45) cf45 := ⟨by kernel_rfl, by kernel_rfl⟩
theorem c58 : okF Go.Proofs.Tryd.prog (nat_lit 2) (nat_lit 58) cf58 := ⟨by kernel_rfl, by kernel_rfl⟩
theorem c82 : okF Go.Proofs.Tryd.prog (nat_lit 2) (nat_lit 82) cf82 := ⟨by kernel_rfl, by kernel_rfl⟩
theorem c90 : okF Go.Proofs.Tryd.prog (nat_lit 2) (nat_lit 90) cf90 := ⟨by kernel_rfl, by kernel_rfl⟩
theorem c81 : okF Go.Proofs.Tryd.prog (nat_lit 2) (nat_lit 81) cf81 := ⟨by kernel_rfl, by kernel_rfl⟩
theorem c50 : okF Go.Proofs.Tryd.prog (nat_lit 2) (nat_lit 50) cf50 := ⟨by kernel_rfl, by kernel_rfl⟩
theorem c68 : okF Go.Proofs.Tryd.prog (nat_lit 2) (nat_lit 68) cf68 := ⟨by kernel_rfl, by kernel_rfl⟩
theorem c83 : okF Go.Proofs.Tryd.prog (nat_lit 2) (nat_lit 83) cf83 := ⟨by kernel_rfl, by kernel_rfl⟩
theorem c63 : okF Go.Proofs.Tryd.prog (nat_lit 2) (nat_lit 63) cf63 := ⟨by kernel_rfl, by kernel_rfl⟩
theorem c62 : okF Go.Proofs.Tryd.prog (nat_lit 2) (nat_lit 62) cf62 := ⟨by kernel_rfl, by kernel_rfl⟩
theorem c44 : okF Go.Proofs.Tryd.prog (nat_lit 2) (nat_lit 44) cf44 := ⟨by kernel_rfl, by kernel_rfl⟩
theorem c55 : okF Go.Proofs.Tryd.prog (nat_lit 2) (nat_lit 55) cf55 := ⟨by kernel_rfl, by kernel_rfl⟩
theorem c79 : okF Go.Proofs.Tryd.prog (nat_lit 2) (nat_lit 79) cf79 := ⟨by kernel_rfl, by kernel_rfl⟩
theorem c89 : okF Go.Proofs.Tryd.prog (nat_lit 2) (nat_lit 89) cf89 := ⟨by kernel_rfl, by kernel_rfl⟩
theorem c43 : okF Go.Proofs.Tryd.prog (nat_lit 2) (nat_lit 43) cf43 := ⟨by kernel_rfl, by kernel_rfl⟩
theorem c56 : okF Go.Proofs.Tryd.prog (nat_lit 2) (nat_lit 56) cf56 := ⟨by kernel_rfl, by kernel_rfl⟩
theorem c80 : okF Go.Proofs.Tryd.prog (nat_lit 2) (nat_lit 80) cf80 := ⟨by kernel_rfl, by kernel_rfl⟩
theorem c61 : okF Go.Proofs.Tryd.prog (nat_lit 2) (nat_lit 61) cf61 := ⟨by kernel_rfl, by kernel_rfl⟩
theorem c60 : okF Go.Proofs.Tryd.prog (nat_lit 2) (nat_lit 60) cf60 := ⟨by kernel_rfl, by kernel_rfl⟩
theorem c42 : okF Go.Proofs.Tryd.prog (nat_lit 2) (nat_lit 42) cf42 := ⟨by kernel_rfl, by kernel_rfl⟩
theorem c59 : okF Go.Proofs.Tryd.prog (nat_lit 2) (nat_lit 59) cf59 := ⟨by kernel_rfl, by kernel_rfl⟩
theorem c41 : okF Go.Proofs.Tryd.prog (nat_lit 2) (nat_lit 41) cf41 := ⟨by kernel_rfl, by kernel_rfl⟩
theorem c37 : okF Go.Proofs.Tryd.prog (nat_lit 2) (nat_lit 37) cf37 := ⟨by kernel_rfl, by kernel_rfl⟩
theorem c39 : okF Go.Proofs.Tryd.prog (nat_lit 2) (nat_lit 39) cf39 := ⟨by kernel_rfl, by kernel_rfl⟩
theorem c57 : okF Go.Proofs.Tryd.prog (nat_lit 2) (nat_lit 57) cf57 := ⟨by kernel_rfl, by kernel_rfl⟩
theorem c40 : okF Go.Proofs.Tryd.prog (nat_lit 2) (nat_lit 40) cf40 := ⟨by kernel_rfl, by kernel_rfl⟩
theorem c38 : okF Go.Proofs.Tryd.prog (nat_lit 2) (nat_lit 38) cf38 := ⟨by kernel_rfl, by kernel_rfl⟩
theorem c10 : okF Go.Proofs.Tryd.prog (nat_lit 2) (nat_lit 10) cf10 := ⟨by kernel_rfl, by kernel_rfl⟩
theorem c25 : okF Go.Proofs.Tryd.prog (nat_lit 2) (nat_lit 25) cf25 := ⟨by kernel_rfl, by kernel_rfl⟩
theorem c48 : okF Go.Proofs.Tryd.prog (nat_lit 2) (nat_lit 48) cf48 := ⟨by kernel_rfl, by kernel_rfl⟩
theorem c47 : okF Go.Proofs.Tryd.prog (nat_lit 2) (nat_lit 47) cf47 := ⟨by kernel_rfl, by kernel_rfl⟩
theorem c4 : okF Go.Proofs.Tryd.prog (nat_lit 2) (nat_lit 4) cf4 := ⟨by kernel_rfl, by kernel_rfl⟩
theorem c15 : okF Go.Proofs.Tryd.prog (nat_lit 2) (nat_lit 15) cf15 := ⟨by kernel_rfl, by kernel_rfl⟩
theorem c32 : okF Go.Proofs.Tryd.prog (nat_lit 2) (nat_lit 32) cf32 := ⟨by kernel_rfl, by kernel_rfl⟩
theorem c51 : okF Go.Proofs.Tryd.prog (nat_lit 2) (nat_lit 51) cf51 := ⟨by kernel_rfl, by kernel_rfl⟩
theorem c76 : okF Go.Proofs.Tryd.prog (nat_lit 2) (nat_lit 76) cf76 := ⟨by kernel_rfl, by kernel_rfl⟩
theorem c75 : okF Go.Proofs.Tryd.prog (nat_lit 2) (nat_lit 75) cf75 := ⟨by kernel_rfl, by kernel_rfl⟩
theorem c74 : okF Go.Proofs.Tryd.prog (nat_lit 2) (nat_lit 74) cf74 := ⟨by kernel_rfl, by kernel_rfl⟩
theorem c73 : okF Go.Proofs.Tryd.prog (nat_lit 2) (nat_lit 73) cf73 := ⟨by kernel_rfl, by kernel_rfl⟩
theorem c72 : okF Go.Proofs.Tryd.prog (nat_lit 2) (nat_lit 72) cf72 := ⟨by kernel_rfl, by kernel_rfl⟩
theorem c88 : okF Go.Proofs.Tryd.prog (nat_lit 2) (nat_lit 88) cf88 := ⟨by kernel_rfl, by kernel_rfl⟩
theorem c91 : okF Go.Proofs.Tryd.prog (nat_lit 2) (nat_lit 91) cf91 := ⟨by kernel_rfl, by kernel_rfl⟩
theorem c87 : okF Go.Proofs.Tryd.prog (nat_lit 2) (nat_lit 87) cf87 := ⟨by kernel_rfl, by kernel_rfl⟩
theorem c71 : okF Go.Proofs.Tryd.prog (nat_lit 2) (nat_lit 71) cf71 := ⟨by kernel_rfl, by kernel_rfl⟩
theorem c86 : okF Go.Proofs.Tryd.prog (nat_lit 2) (nat_lit 86) cf86 := ⟨by kernel_rfl, by kernel_rfl⟩
theorem c85 : okF Go.Proofs.Tryd.prog (nat_lit 2) (nat_lit 85) cf85 := ⟨by kernel_rfl, by kernel_rfl⟩
theorem c70 : okF Go.Proofs.Tryd.prog (nat_lit 2) (nat_lit 70) cf70 := ⟨by kernel_rfl, by kernel_rfl⟩
theorem c84 : okF Go.Proofs.Tryd.prog (nat_lit 2) (nat_lit 84) cf84 := ⟨by kernel_rfl, by kernel_rfl⟩
theorem c69 : okF Go.Proofs.Tryd.prog (nat_lit 2) (nat_lit 69) cf69 := ⟨by kernel_rfl, by kernel_rfl⟩
theorem c52 : okF Go.Proofs.Tryd.prog (nat_lit 2) (nat_lit 52) cf52 := ⟨by kernel_rfl, by kernel_rfl⟩
theorem c78 : okF Go.Proofs.Tryd.prog (nat_lit 2) (nat_lit 78) cf78 := ⟨by kernel_rfl, by kernel_rfl⟩
theorem c77 : okF Go.Proofs.Tryd.prog (nat_lit 2) (nat_lit 77) cf77 := ⟨by kernel_rfl, by kernel_rfl⟩
theorem c33 : okF Go.Proofs.Tryd.prog (nat_lit 2) (nat_lit 33) cf33 := ⟨by kernel_rfl, by kernel_rfl⟩
theorem c34 : okF Go.Proofs.Tryd.prog (nat_lit 2) (nat_lit 34) cf34 := ⟨by kernel_rfl, by kernel_rfl⟩
theorem c36 : okF Go.Proofs.Tryd.prog (nat_lit 2) (nat_lit 36) cf36 := ⟨by kernel_rfl, by kernel_rfl⟩
theorem c54 : okF Go.Proofs.Tryd.prog (nat_lit 2) (nat_lit 54) cf54 := ⟨by kernel_rfl, by kernel_rfl⟩
theorem c35 : okF Go.Proofs.Tryd.prog (nat_lit 2) (nat_lit 35) cf35 := ⟨by kernel_rfl, by kernel_rfl⟩
theorem c53 : okF Go.Proofs.Tryd.prog (nat_lit 2) (nat_lit 53) cf53 := ⟨by kernel_rfl, by kernel_rfl⟩
theorem c14 : okF Go.Proofs.Tryd.prog (nat_lit 2) (nat_lit 14) cf14 := ⟨by kernel_rfl, by kernel_rfl⟩
theorem c31 : okF Go.Proofs.Tryd.prog (nat_lit 2) (nat_lit 31) cf31 := ⟨by kernel_rfl, by kernel_rfl⟩
theorem c30 : okF Go.Proofs.Tryd.prog (nat_lit 2) (nat_lit 30) cf30 := ⟨by kernel_rfl, by kernel_rfl⟩
theorem c29 : okF Go.Proofs.Tryd.prog (nat_lit 2) (nat_lit 29) cf29 := ⟨by kernel_rfl, by kernel_rfl⟩
theorem c27 : okF Go.Proofs.Tryd.prog (nat_lit 2) (nat_lit 27) cf27 := ⟨by kernel_rfl, by kernel_rfl⟩
theorem c49 : okF Go.Proofs.Tryd.prog (nat_lit 2) (nat_lit 49) cf49 := ⟨by kernel_rfl, by kernel_rfl⟩
theorem c67 : okF Go.Proofs.Tryd.prog (nat_lit 2) (nat_lit 67) cf67 := ⟨by kernel_rfl, by kernel_rfl⟩
theorem c66 : okF Go.Proofs.Tryd.prog (nat_lit 2) (nat_lit 66) cf66 := ⟨by kernel_rfl, by kernel_rfl⟩
theorem c65 : okF Go.Proofs.Tryd.prog (nat_lit 2) (nat_lit 65) cf65 := ⟨by kernel_rfl, by kernel_rfl⟩
theorem c64 : okF Go.Proofs.Tryd.prog (nat_lit 2) (nat_lit 64) cf64 := ⟨by kernel_rfl, by kernel_rfl⟩
theorem c28 : okF Go.Proofs.Tryd.prog (nat_lit 2) (nat_lit 28) cf28 := ⟨by kernel_rfl, by kernel_rfl⟩
theorem c13 : okF Go.Proofs.Tryd.prog (nat_lit 2) (nat_lit 13) cf13 := ⟨by kernel_rfl, by kernel_rfl⟩
theorem c11 : okF Go.Proofs.Tryd.prog (nat_lit 2) (nat_lit 11) cf11 := ⟨by kernel_rfl, by kernel_rfl⟩
theorem c26 : okF Go.Proofs.Tryd.prog (nat_lit 2) (nat_lit 26) cf26 := ⟨by kernel_rfl, by kernel_rfl⟩
theorem c12 : okF Go.Proofs.Tryd.prog (nat_lit 2) (nat_lit 12) cf12 := ⟨by kernel_rfl, by kernel_rfl⟩
theorem c5 : okF Go.Proofs.Tryd.prog (nat_lit 2) (nat_lit 5) cf5 := ⟨by kernel_rfl, by kernel_rfl⟩
noncomputable def tab : PM HF := (.node (.node (.node (.node (.node (.node (.node .leaf (some cf63) .leaf) (some cf31) .leaf) (some cf15) (.node (.node .leaf (some cf79) .leaf) (some cf47) .leaf)) (some cf7) (.node (.node (.node .leaf (some cf71) .leaf) (some cf39) .leaf) (some cf23) (.node (.node .leaf (some cf87) .leaf) (some cf55) .leaf))) (some cf3) (.node (.node (.node (.node .leaf (some cf67) .leaf) (some cf35) .leaf) (some cf19) (.node (.node .leaf (some cf83) .leaf) (some cf51) .leaf)) (some cf11) (.node (.node (.node .leaf (some cf75) .leaf) (some cf43) .leaf) (some cf27) (.node (.node .leaf (some cf91) .leaf) (some cf59) .leaf)))) none (.node (.node (.node (.node (.node .leaf (some cf65) .leaf) (some cf33) .leaf) (some cf17) (.node (.node .leaf (some cf81) .leaf) (some cf49) .leaf)) (some cf9) (.node (.node (.node .leaf (some cf73) .leaf) (some cf41) .leaf) (some cf25) (.node (.node .leaf (some cf89) .leaf) (some cf57) .leaf))) (some cf5) (.node (.node (.node (.node .leaf (some cf69) .leaf) (some cf37) .leaf) (some cf21) (.node (.node .leaf (some cf85) .leaf) (some cf53) .leaf)) (some cf13) (.node (.node (.node .leaf (some cf77) .leaf) (some cf45) .leaf) (some cf29) (.node .leaf (some cf61) .leaf))))) none (.node (.node (.node (.node (.node (.node .leaf (some cf64) .leaf) (some cf32) .leaf) (some cf16) (.node (.node .leaf (some cf80) .leaf) (some cf48) .leaf)) (some cf8) (.node (.node (.node .leaf (some cf72) .leaf) (some cf40) .leaf) (some cf24) (.node (.node .leaf (some cf88) .leaf) (some cf56) .leaf))) (some cf4) (.node (.node (.node (.node .leaf (some cf68) .leaf) (some cf36) .leaf) (some cf20) (.node (.node .leaf (some cf84) .leaf) (some cf52) .leaf)) (some cf12) (.node (.node (.node .leaf (some cf76) .leaf) (some cf44) .leaf) (some cf28) (.node .leaf (some cf60) .leaf)))) none (.node (.node (.node (.node (.node .leaf (some cf66) .leaf) (some cf34) .leaf) (some cf18) (.node (.node .leaf (some cf82) .leaf) (some cf50) .leaf)) (some cf10) (.node (.node (.node .leaf (some cf74) .leaf) (some cf42) .leaf) (some cf26) (.node (.node .leaf (some cf90) .leaf) (some cf58) .leaf))) (some cf6) (.node (.node (.node (.node .leaf (some cf70) .leaf) (some cf38) .leaf) (some cf22) (.node (.node .leaf (some cf86) .leaf) (some cf54) .leaf)) (some cf14) (.node (.node (.node .leaf (some cf78) .leaf) (some cf46) .leaf) (some cf30) (.node .leaf (some cf62) .leaf))))))
noncomputable def F : Nat → Option HF := fun f => tab.get f
theorem F_ok : ∀ f cf, F f = some cf → okF Go.Proofs.Tryd.prog (nat_lit 2) f cf := table_ok (by exact ⟨none_some, ⟨none_some, ⟨some_some c3, ⟨some_some c7, ⟨some_some c15, ⟨some_some c31, ⟨some_some c63, trivial, trivial⟩, trivial⟩, ⟨some_some c47, ⟨some_some c79, trivial, trivial⟩, trivial⟩⟩, ⟨some_some c23, ⟨some_some c39, ⟨some_some c71, trivial, trivial⟩, trivial⟩, ⟨some_some c55, ⟨some_some c87, trivial, trivial⟩, trivial⟩⟩⟩, ⟨some_some c11, ⟨some_some c19, ⟨some_some c35, ⟨some_some c67, trivial, trivial⟩, trivial⟩, ⟨some_some c51, ⟨some_some c83, trivial, trivial⟩, trivial⟩⟩, ⟨some_some c27, ⟨some_some c43, ⟨some_some c75, trivial, trivial⟩, trivial⟩, ⟨some_some c59, ⟨some_some c91, trivial, trivial⟩, trivial⟩⟩⟩⟩, ⟨some_some c5, ⟨some_some c9, ⟨some_some c17, ⟨some_some c33, ⟨some_some c65, trivial, trivial⟩, trivial⟩, ⟨some_some c49, ⟨some_some c81, trivial, trivial⟩, trivial⟩⟩, ⟨some_some c25, ⟨some_some c41, ⟨some_some c73, trivial, trivial⟩, trivial⟩, ⟨some_some c57, ⟨some_some c89, trivial, trivial⟩, trivial⟩⟩⟩, ⟨some_some c13, ⟨some_some c21, ⟨some_some c37, ⟨some_some c69, trivial, trivial⟩, trivial⟩, ⟨some_some c53, ⟨some_some c85, trivial, trivial⟩, trivial⟩⟩, ⟨some_some c29, ⟨some_some c45, ⟨some_some c77, trivial, trivial⟩, trivial⟩, ⟨some_some c61, trivial, trivial⟩⟩⟩⟩⟩, ⟨none_some, ⟨some_some c4, ⟨some_some c8, ⟨some_some c16, ⟨some_some c32, ⟨some_some c64, trivial, trivial⟩, trivial⟩, ⟨some_some c48, ⟨some_some c80, trivial, trivial⟩, trivial⟩⟩, ⟨some_some c24, ⟨some_some c40, ⟨some_some c72, trivial, trivial⟩, trivial⟩, ⟨some_some c56, ⟨some_some c88, trivial, trivial⟩, trivial⟩⟩⟩, ⟨some_some c12, ⟨some_some c20, ⟨some_some c36, ⟨some_some c68, trivial, trivial⟩, trivial⟩, ⟨some_some c52, ⟨some_some c84, trivial, trivial⟩, trivial⟩⟩, ⟨some_some c28, ⟨some_some c44, ⟨some_some c76, trivial, trivial⟩, trivial⟩, ⟨some_some c60, trivial, trivial⟩⟩⟩⟩, ⟨some_some c6, ⟨some_some c10, ⟨some_some c18, ⟨some_some c34, ⟨some_some c66, trivial, trivial⟩, trivial⟩, ⟨some_some c50, ⟨some_some c82, trivial, trivial⟩, trivial⟩⟩, ⟨some_some c26, ⟨some_some c42, ⟨some_some c74, trivial, trivial⟩, trivial⟩, ⟨some_some c58, ⟨some_some c90, trivial, trivial⟩, trivial⟩⟩⟩, ⟨some_some c14, ⟨some_some c22, ⟨some_some c38, ⟨some_some c70, trivial, trivial⟩, trivial⟩, ⟨some_some c54, ⟨some_some c86, trivial, trivial⟩, trivial⟩⟩, ⟨some_some c30, ⟨some_some c46, ⟨some_some c78, trivial, trivial⟩, trivial⟩, ⟨some_some c62, trivial, trivial⟩⟩⟩⟩⟩⟩)
end Go.Proofs.YtffaehgicojjmaaDoor.Ev
