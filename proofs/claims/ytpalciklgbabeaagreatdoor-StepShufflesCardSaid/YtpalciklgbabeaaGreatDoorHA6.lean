import Derived.Test.YtpalciklgbabeaaGreatDoorHK1
/- What the evaluator answers at each shape of the arguments of StepShuffles: shape 6 of the first. Conditions: none of its own. -/
namespace Go.Proofs.YtpalciklgbabeaaGreatDoor.stepShuffles
open Go Ev
theorem a6_0_0 (L C : Nat) : isT (run (@tabH TE 0) 1000 noY 4 (args3 (aS 0 (L + 5) C) aN) .leaf 0) = true := by kernel_rfl
theorem a6_0_1 (L C : Nat) : isT (run (@tabH TE 1) 1000 noY 4 (args3 (aS 0 (L + 5) C) aN) .leaf 0) = true := by kernel_rfl
theorem a6_0_2 (L C : Nat) : isT (run (@tabH TE 2) 1000 noY 4 (args3 (aS 0 (L + 5) C) aN) .leaf 0) = true := by kernel_rfl
theorem a6_1_0 (L C : Nat) (D : Nat) : isT (run (@tabH TE 0) 1000 noY 4 (args3 (aS 0 (L + 5) C) (aS 1 0 D)) .leaf 0) = true := by kernel_rfl
theorem a6_1_1 (L C : Nat) (D : Nat) : isT (run (@tabH TE 1) 1000 noY 4 (args3 (aS 0 (L + 5) C) (aS 1 0 D)) .leaf 0) = true := by kernel_rfl
theorem a6_1_2 (L C : Nat) (D : Nat) : isT (run (@tabH TE 2) 1000 noY 4 (args3 (aS 0 (L + 5) C) (aS 1 0 D)) .leaf 0) = true := by kernel_rfl
theorem a6_2_0 (L C : Nat) (D : Nat) : isT (run (@tabH TE 0) 1000 noY 4 (args3 (aS 0 (L + 5) C) (aS 1 1 D)) .leaf 0) = true := by kernel_rfl
theorem a6_2_1 (L C : Nat) (D : Nat) : isT (run (@tabH TE 1) 1000 noY 4 (args3 (aS 0 (L + 5) C) (aS 1 1 D)) .leaf 0) = true := by kernel_rfl
theorem a6_2_2 (L C : Nat) (D : Nat) : isT (run (@tabH TE 2) 1000 noY 4 (args3 (aS 0 (L + 5) C) (aS 1 1 D)) .leaf 0) = true := by kernel_rfl
theorem a6_3_0 (L C : Nat) (D : Nat) : isT (run (@tabH TE 0) 1000 noY 4 (args3 (aS 0 (L + 5) C) (aS 1 2 D)) .leaf 0) = true := by kernel_rfl
theorem a6_3_1 (L C : Nat) (D : Nat) : isT (run (@tabH TE 1) 1000 noY 4 (args3 (aS 0 (L + 5) C) (aS 1 2 D)) .leaf 0) = true := by kernel_rfl
theorem a6_3_2 (L C : Nat) (D : Nat) : isT (run (@tabH TE 2) 1000 noY 4 (args3 (aS 0 (L + 5) C) (aS 1 2 D)) .leaf 0) = true := by kernel_rfl
theorem a6_4_0 (L C : Nat) (M D : Nat) : isT (run (@tabH TE 0) 1000 noY 4 (args3 (aS 0 (L + 5) C) (aS 1 (M + 3) D)) .leaf 0) = true := by kernel_rfl
theorem a6_4_1 (L C : Nat) (M D : Nat) : isT (run (@tabH TE 1) 1000 noY 4 (args3 (aS 0 (L + 5) C) (aS 1 (M + 3) D)) .leaf 0) = true := by kernel_rfl
theorem a6_4_2 (L C : Nat) (M D : Nat) : isT (run (@tabH TE 2) 1000 noY 4 (args3 (aS 0 (L + 5) C) (aS 1 (M + 3) D)) .leaf 0) = true := by kernel_rfl
end Go.Proofs.YtpalciklgbabeaaGreatDoor.stepShuffles
