import Derived.Test.YtpalciklgbabeaaGreatDoorHK1
/- What the evaluator answers at each shape of the arguments of StepShuffles: shape 0 of the first. Conditions: none of its own. -/
namespace Go.Proofs.YtpalciklgbabeaaGreatDoor.stepShuffles
open Go Ev
theorem a0_0_0  : isT (run (@tabH TE 0) 1000 noY 4 (args3 aN aN) .leaf 0) = true := by kernel_rfl
theorem a0_0_1  : isT (run (@tabH TE 1) 1000 noY 4 (args3 aN aN) .leaf 0) = true := by kernel_rfl
theorem a0_0_2  : isT (run (@tabH TE 2) 1000 noY 4 (args3 aN aN) .leaf 0) = true := by kernel_rfl
theorem a0_1_0 (D : Nat) : isT (run (@tabH TE 0) 1000 noY 4 (args3 aN (aS 1 0 D)) .leaf 0) = true := by kernel_rfl
theorem a0_1_1 (D : Nat) : isT (run (@tabH TE 1) 1000 noY 4 (args3 aN (aS 1 0 D)) .leaf 0) = true := by kernel_rfl
theorem a0_1_2 (D : Nat) : isT (run (@tabH TE 2) 1000 noY 4 (args3 aN (aS 1 0 D)) .leaf 0) = true := by kernel_rfl
theorem a0_2_0 (D : Nat) : isT (run (@tabH TE 0) 1000 noY 4 (args3 aN (aS 1 1 D)) .leaf 0) = true := by kernel_rfl
theorem a0_2_1 (D : Nat) : isT (run (@tabH TE 1) 1000 noY 4 (args3 aN (aS 1 1 D)) .leaf 0) = true := by kernel_rfl
theorem a0_2_2 (D : Nat) : isT (run (@tabH TE 2) 1000 noY 4 (args3 aN (aS 1 1 D)) .leaf 0) = true := by kernel_rfl
theorem a0_3_0 (D : Nat) : isT (run (@tabH TE 0) 1000 noY 4 (args3 aN (aS 1 2 D)) .leaf 0) = true := by kernel_rfl
theorem a0_3_1 (D : Nat) : isT (run (@tabH TE 1) 1000 noY 4 (args3 aN (aS 1 2 D)) .leaf 0) = true := by kernel_rfl
theorem a0_3_2 (D : Nat) : isT (run (@tabH TE 2) 1000 noY 4 (args3 aN (aS 1 2 D)) .leaf 0) = true := by kernel_rfl
theorem a0_4_0 (M D : Nat) : isT (run (@tabH TE 0) 1000 noY 4 (args3 aN (aS 1 (M + 3) D)) .leaf 0) = true := by kernel_rfl
theorem a0_4_1 (M D : Nat) : isT (run (@tabH TE 1) 1000 noY 4 (args3 aN (aS 1 (M + 3) D)) .leaf 0) = true := by kernel_rfl
theorem a0_4_2 (M D : Nat) : isT (run (@tabH TE 2) 1000 noY 4 (args3 aN (aS 1 (M + 3) D)) .leaf 0) = true := by kernel_rfl
end Go.Proofs.YtpalciklgbabeaaGreatDoor.stepShuffles
