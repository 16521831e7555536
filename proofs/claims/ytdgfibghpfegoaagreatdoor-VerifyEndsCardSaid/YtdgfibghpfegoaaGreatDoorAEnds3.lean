import Derived.Test.YtdgfibghpfegoaaGreatDoorAEnds0
/- What the evaluator answers at each case of VerifyEnds. Conditions: none of its own. -/
namespace Go.Proofs.YtdgfibghpfegoaaGreatDoor.verifyEnds
open Go Ev
theorem ans_18f : isT (run (tab9 (told 18)) 1000 noY 6 (.cons (.ref 12 0 0 0 0 0) (.cons (.num 8 (.ofNat 0)) .nil)) .leaf 0) = true := by kernel_rfl
theorem ans_18t : isT (run (tab9 (told 18)) 1000 noY 6 (.cons (.ref 12 0 0 0 0 0) (.cons (.num 8 (.ofNat 1)) .nil)) .leaf 0) = true := by kernel_rfl
theorem ans_19f : isT (run (tab9 (told 19)) 1000 noY 6 (.cons (.ref 12 0 0 0 0 0) (.cons (.num 8 (.ofNat 0)) .nil)) .leaf 0) = true := by kernel_rfl
theorem ans_19t : isT (run (tab9 (told 19)) 1000 noY 6 (.cons (.ref 12 0 0 0 0 0) (.cons (.num 8 (.ofNat 1)) .nil)) .leaf 0) = true := by kernel_rfl
theorem ans_20f : isT (run (tab9 (told 20)) 1000 noY 6 (.cons (.ref 12 0 0 0 0 0) (.cons (.num 8 (.ofNat 0)) .nil)) .leaf 0) = true := by kernel_rfl
theorem ans_20t : isT (run (tab9 (told 20)) 1000 noY 6 (.cons (.ref 12 0 0 0 0 0) (.cons (.num 8 (.ofNat 1)) .nil)) .leaf 0) = true := by kernel_rfl
theorem ans_21f : isT (run (tab9 (told 21)) 1000 noY 6 (.cons (.ref 12 0 0 0 0 0) (.cons (.num 8 (.ofNat 0)) .nil)) .leaf 0) = true := by kernel_rfl
theorem ans_21t : isT (run (tab9 (told 21)) 1000 noY 6 (.cons (.ref 12 0 0 0 0 0) (.cons (.num 8 (.ofNat 1)) .nil)) .leaf 0) = true := by kernel_rfl
theorem ans_22f : isT (run (tab9 (told 22)) 1000 noY 6 (.cons (.ref 12 0 0 0 0 0) (.cons (.num 8 (.ofNat 0)) .nil)) .leaf 0) = true := by kernel_rfl
theorem ans_22t : isT (run (tab9 (told 22)) 1000 noY 6 (.cons (.ref 12 0 0 0 0 0) (.cons (.num 8 (.ofNat 1)) .nil)) .leaf 0) = true := by kernel_rfl
theorem ans_23f : isT (run (tab9 (told 23)) 1000 noY 6 (.cons (.ref 12 0 0 0 0 0) (.cons (.num 8 (.ofNat 0)) .nil)) .leaf 0) = true := by kernel_rfl
theorem ans_23t : isT (run (tab9 (told 23)) 1000 noY 6 (.cons (.ref 12 0 0 0 0 0) (.cons (.num 8 (.ofNat 1)) .nil)) .leaf 0) = true := by kernel_rfl
end Go.Proofs.YtdgfibghpfegoaaGreatDoor.verifyEnds
