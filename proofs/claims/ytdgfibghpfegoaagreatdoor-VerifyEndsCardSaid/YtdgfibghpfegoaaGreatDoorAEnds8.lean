import Derived.Test.YtdgfibghpfegoaaGreatDoorAEnds0
/- What the evaluator answers at each case of VerifyEnds. Conditions: none of its own. -/
namespace Go.Proofs.YtdgfibghpfegoaaGreatDoor.verifyEnds
open Go Ev
theorem ans_48f : isT (run (tab9 (told 48)) 1000 noY 6 (.cons (.ref 12 0 0 0 0 0) (.cons (.num 8 (.ofNat 0)) .nil)) .leaf 0) = true := by kernel_rfl
theorem ans_48t : isT (run (tab9 (told 48)) 1000 noY 6 (.cons (.ref 12 0 0 0 0 0) (.cons (.num 8 (.ofNat 1)) .nil)) .leaf 0) = true := by kernel_rfl
theorem ans_49f : isT (run (tab9 (told 49)) 1000 noY 6 (.cons (.ref 12 0 0 0 0 0) (.cons (.num 8 (.ofNat 0)) .nil)) .leaf 0) = true := by kernel_rfl
theorem ans_49t : isT (run (tab9 (told 49)) 1000 noY 6 (.cons (.ref 12 0 0 0 0 0) (.cons (.num 8 (.ofNat 1)) .nil)) .leaf 0) = true := by kernel_rfl
end Go.Proofs.YtdgfibghpfegoaaGreatDoor.verifyEnds
