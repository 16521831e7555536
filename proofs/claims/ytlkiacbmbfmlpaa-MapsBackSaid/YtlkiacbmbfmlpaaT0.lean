import Derived.Test.YtlkiacbmbfmlpaaT1
import Derived.Test.YtlkiacbmbfmlpaaT2
import Derived.Test.YtlkiacbmbfmlpaaT3
/- The table of all the functions. -/
namespace Ev
open Go Go.Proofs
set_option linter.unusedSectionVars false
set_option linter.unusedVariables false
set_option maxRecDepth 100000
variable [Told] [TokV] [ToldOK]
abbrev nd (a : Bt FnD) (v : Option FnD) (b : Bt FnD) : Bt FnD := .node a v b
theorem tn {E : Nat → FnD → Prop} {g : Nat → Nat} {l r : Bt FnD} {v : Option FnD} (hl : TA E (fun q => g (2 * q + 1)) l) (hv : ∀ d, v = some d → E (g 0) d) (hr : TA E (fun q => g (2 * q + 2)) r) : TA E g (nd l v r) := ta_node hl hv hr
noncomputable def tab (res : Nat → Int → Option Int) : Bt FnD := (nd (nd (nd (nd (nd (nd .leaf (some s31) .leaf) (some s15) .leaf) (some s7) (nd (nd .leaf (some s39) .leaf) (some s23) .leaf)) (some s3) (nd (nd (nd .leaf (some s35) .leaf) (some s19) .leaf) (some s11) (nd (nd .leaf (some s43) .leaf) (some s27) .leaf))) none (nd (nd (nd (nd .leaf (some s33) .leaf) (some s17) .leaf) (some s9) (nd (nd .leaf (some s41) .leaf) (some s25) .leaf)) (some s5) (nd (nd (nd .leaf (some s37) .leaf) (some s21) .leaf) (some s13) (nd .leaf (some s29) .leaf)))) none (nd (nd (nd (nd (nd .leaf (some s32) .leaf) (some s16) .leaf) (some s8) (nd (nd .leaf (some s40) .leaf) (some s24) .leaf)) (some s4) (nd (nd (nd .leaf (some s36) .leaf) (some s20) .leaf) (some s12) (nd .leaf (some s28) .leaf))) none (nd (nd (nd (nd .leaf (some s34) .leaf) (some s18) .leaf) (some s10) (nd (nd .leaf (some s42) .leaf) (some s26) .leaf)) (some s6) (nd (nd (nd .leaf (some s38) .leaf) (some s22) .leaf) (some s14) (nd .leaf (some s30) .leaf)))))
theorem tab_ok {tk : Tok} {res : Nat → Int → Option Int}  : TabOK Try.prog tk (tab res) := tab_of (tn (tn (tn (tn (tn (tn ta_leaf (ta_some e31) ta_leaf) (ta_some e15) ta_leaf) (ta_some e7) (tn (tn ta_leaf (ta_some e39) ta_leaf) (ta_some e23) ta_leaf)) (ta_some e3) (tn (tn (tn ta_leaf (ta_some e35) ta_leaf) (ta_some e19) ta_leaf) (ta_some e11) (tn (tn ta_leaf (ta_some e43) ta_leaf) (ta_some e27) ta_leaf))) ta_none (tn (tn (tn (tn ta_leaf (ta_some e33) ta_leaf) (ta_some e17) ta_leaf) (ta_some e9) (tn (tn ta_leaf (ta_some e41) ta_leaf) (ta_some e25) ta_leaf)) (ta_some e5) (tn (tn (tn ta_leaf (ta_some e37) ta_leaf) (ta_some e21) ta_leaf) (ta_some e13) (tn ta_leaf (ta_some e29) ta_leaf)))) ta_none (tn (tn (tn (tn (tn ta_leaf (ta_some e32) ta_leaf) (ta_some e16) ta_leaf) (ta_some e8) (tn (tn ta_leaf (ta_some e40) ta_leaf) (ta_some e24) ta_leaf)) (ta_some e4) (tn (tn (tn ta_leaf (ta_some e36) ta_leaf) (ta_some e20) ta_leaf) (ta_some e12) (tn ta_leaf (ta_some e28) ta_leaf))) ta_none (tn (tn (tn (tn ta_leaf (ta_some e34) ta_leaf) (ta_some e18) ta_leaf) (ta_some e10) (tn (tn ta_leaf (ta_some e42) ta_leaf) (ta_some e26) ta_leaf)) (ta_some e6) (tn (tn (tn ta_leaf (ta_some e38) ta_leaf) (ta_some e22) ta_leaf) (ta_some e14) (tn ta_leaf (ta_some e30) ta_leaf)))))
end Ev
