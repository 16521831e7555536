import Derived.Test.YtpalciklgbabeaaGreatDoorHK1
/- What the evaluator answers at each shape of the arguments of StepShuffles: shape 1 of the first. Conditions: none of its own. -/
namespace Go.Proofs.YtpalciklgbabeaaGreatDoor.stepShuffles
open Go Ev
theorem a1_0_0 (C : Nat) : isT (run (@tabH TE 0) 1000 noY 4 (args3 (aS 0 0 C) aN) .leaf 0) = true := by kernel_rfl
theorem a1_0_1 (C : Nat) : isT (run (@tabH TE 1) 1000 noY 4 (args3 (aS 0 0 C) aN) .leaf 0) = true := by kernel_rfl
theorem a1_0_2 (C : Nat) : isT (run (@tabH TE 2) 1000 noY 4 (args3 (aS 0 0 C) aN) .leaf 0) = true := by kernel_rfl
theorem a1_1_0 (C : Nat) (D : Nat) : isT (run (@tabH TE 0) 1000 noY 4 (args3 (aS 0 0 C) (aS 1 0 D)) .leaf 0) = true := by kernel_rfl
theorem a1_1_1 (C : Nat) (D : Nat) : isT (run (@tabH TE 1) 1000 noY 4 (args3 (aS 0 0 C) (aS 1 0 D)) .leaf 0) = true := by kernel_rfl
theorem a1_1_2 (C : Nat) (D : Nat) : isT (run (@tabH TE 2) 1000 noY 4 (args3 (aS 0 0 C) (aS 1 0 D)) .leaf 0) = true := by kernel_rfl
theorem a1_2_0 (C : Nat) (D : Nat) : isT (run (@tabH TE 0) 1000 noY 4 (args3 (aS 0 0 C) (aS 1 1 D)) .leaf 0) = true := by kernel_rfl
theorem a1_2_1 (C : Nat) (D : Nat) : isT (run (@tabH TE 1) 1000 noY 4 (args3 (aS 0 0 C) (aS 1 1 D)) .leaf 0) = true := by kernel_rfl
theorem a1_2_2 (C : Nat) (D : Nat) : isT (run (@tabH TE 2) 1000 noY 4 (args3 (aS 0 0 C) (aS 1 1 D)) .leaf 0) = true := by kernel_rfl
theorem a1_3_0 (C : Nat) (D : Nat) : isT (run (@tabH TE 0) 1000 noY 4 (args3 (aS 0 0 C) (aS 1 2 D)) .leaf 0) = true := by kernel_rfl
theorem a1_3_1 (C : Nat) (D : Nat) : isT (run (@tabH TE 1) 1000 noY 4 (args3 (aS 0 0 C) (aS 1 2 D)) .leaf 0) = true := by kernel_rfl
theorem a1_3_2 (C : Nat) (D : Nat) : isT (run (@tabH TE 2) 1000 noY 4 (args3 (aS 0 0 C) (aS 1 2 D)) .leaf 0) = true := by kernel_rfl
theorem a1_4_0 (C : Nat) (M D : Nat) : isT (run (@tabH TE 0) 1000 noY 4 (args3 (aS 0 0 C) (aS 1 (M + 3) D)) .leaf 0) = true := by kernel_rfl
theorem a1_4_1 (C : Nat) (M D : Nat) : isT (run (@tabH TE 1) 1000 noY 4 (args3 (aS 0 0 C) (aS 1 (M + 3) D)) .leaf 0) = true := by kernel_rfl
theorem a1_4_2 (C : Nat) (M D : Nat) : isT (run (@tabH TE 2) 1000 noY 4 (args3 (aS 0 0 C) (aS 1 (M + 3) D)) .leaf 0) = true := by kernel_rfl
end Go.Proofs.YtpalciklgbabeaaGreatDoor.stepShuffles
