import Derived.Test.YtpalciklgbabeaaGreatDoorEK1
/- What the evaluator answers at each operation of StepEffects. Conditions: none of its own. -/
namespace Go.Proofs.YtpalciklgbabeaaGreatDoor.stepEffects
open Go Ev
theorem n8 : isT (run (@tabS TE 8) 1000 noY 3 argsN .leaf 0) = true := by kernel_rfl
theorem a8_0 (C : Nat) : chkE (fun b => isT (run (@tabS TE 8) 1000 noY 3 (argsE b 0 C) .leaf 0)) [0, 0] 0 (ini 0) = true := by kernel_rfl
theorem a8_1 (C : Nat) : chkE (fun b => isT (run (@tabS TE 8) 1000 noY 3 (argsE b 1 C) .leaf 0)) [0, 0] 1 (ini 1) = true := by kernel_rfl
theorem a8_2 (C : Nat) : chkE (fun b => isT (run (@tabS TE 8) 1000 noY 3 (argsE b 2 C) .leaf 0)) [0, 0] 2 (ini 2) = true := by kernel_rfl
theorem a8_3 (C : Nat) : chkE (fun b => isT (run (@tabS TE 8) 1000 noY 3 (argsE b 3 C) .leaf 0)) [0, 0] 3 (ini 3) = true := by kernel_rfl
theorem a8_4 (C : Nat) : chkE (fun b => isT (run (@tabS TE 8) 1000 noY 3 (argsE b 4 C) .leaf 0)) [0, 0] 4 (ini 4) = true := by kernel_rfl
theorem a8_5 (L C : Nat) : chkE (fun b => isT (run (@tabS TE 8) 1000 noY 3 (argsE b (L + 5) C) .leaf 0)) [0, 0] 4 (ini 4) = true := by kernel_rfl
theorem n9 : isT (run (@tabS TE 9) 1000 noY 3 argsN .leaf 0) = true := by kernel_rfl
theorem a9_0 (C : Nat) : chkE (fun b => isT (run (@tabS TE 9) 1000 noY 3 (argsE b 0 C) .leaf 0)) [0, 0] 0 (ini 0) = true := by kernel_rfl
theorem a9_1 (C : Nat) : chkE (fun b => isT (run (@tabS TE 9) 1000 noY 3 (argsE b 1 C) .leaf 0)) [0, 0] 1 (ini 1) = true := by kernel_rfl
theorem a9_2 (C : Nat) : chkE (fun b => isT (run (@tabS TE 9) 1000 noY 3 (argsE b 2 C) .leaf 0)) [0, 0] 2 (ini 2) = true := by kernel_rfl
theorem a9_3 (C : Nat) : chkE (fun b => isT (run (@tabS TE 9) 1000 noY 3 (argsE b 3 C) .leaf 0)) [0, 0] 3 (ini 3) = true := by kernel_rfl
theorem a9_4 (C : Nat) : chkE (fun b => isT (run (@tabS TE 9) 1000 noY 3 (argsE b 4 C) .leaf 0)) [0, 0] 4 (ini 4) = true := by kernel_rfl
theorem a9_5 (L C : Nat) : chkE (fun b => isT (run (@tabS TE 9) 1000 noY 3 (argsE b (L + 5) C) .leaf 0)) [0, 0] 4 (ini 4) = true := by kernel_rfl
theorem n10 : isT (run (@tabS TE 10) 1000 noY 3 argsN .leaf 0) = true := by kernel_rfl
theorem a10_0 (C : Nat) : chkE (fun b => isT (run (@tabS TE 10) 1000 noY 3 (argsE b 0 C) .leaf 0)) [0, 0] 0 (ini 0) = true := by kernel_rfl
theorem a10_1 (C : Nat) : chkE (fun b => isT (run (@tabS TE 10) 1000 noY 3 (argsE b 1 C) .leaf 0)) [0, 0] 1 (ini 1) = true := by kernel_rfl
theorem a10_2 (C : Nat) : chkE (fun b => isT (run (@tabS TE 10) 1000 noY 3 (argsE b 2 C) .leaf 0)) [0, 0] 2 (ini 2) = true := by kernel_rfl
theorem a10_3 (C : Nat) : chkE (fun b => isT (run (@tabS TE 10) 1000 noY 3 (argsE b 3 C) .leaf 0)) [0, 0] 3 (ini 3) = true := by kernel_rfl
theorem a10_4 (C : Nat) : chkE (fun b => isT (run (@tabS TE 10) 1000 noY 3 (argsE b 4 C) .leaf 0)) [0, 0] 4 (ini 4) = true := by kernel_rfl
theorem a10_5 (L C : Nat) : chkE (fun b => isT (run (@tabS TE 10) 1000 noY 3 (argsE b (L + 5) C) .leaf 0)) [0, 0] 4 (ini 4) = true := by kernel_rfl
theorem n11 : isT (run (@tabS TE 11) 1000 noY 3 argsN .leaf 0) = true := by kernel_rfl
theorem a11_0 (C : Nat) : chkE (fun b => isT (run (@tabS TE 11) 1000 noY 3 (argsE b 0 C) .leaf 0)) [0, 0] 0 (ini 0) = true := by kernel_rfl
theorem a11_1 (C : Nat) : chkE (fun b => isT (run (@tabS TE 11) 1000 noY 3 (argsE b 1 C) .leaf 0)) [0, 0] 1 (ini 1) = true := by kernel_rfl
theorem a11_2 (C : Nat) : chkE (fun b => isT (run (@tabS TE 11) 1000 noY 3 (argsE b 2 C) .leaf 0)) [0, 0] 2 (ini 2) = true := by kernel_rfl
theorem a11_3 (C : Nat) : chkE (fun b => isT (run (@tabS TE 11) 1000 noY 3 (argsE b 3 C) .leaf 0)) [0, 0] 3 (ini 3) = true := by kernel_rfl
theorem a11_4 (C : Nat) : chkE (fun b => isT (run (@tabS TE 11) 1000 noY 3 (argsE b 4 C) .leaf 0)) [0, 0] 4 (ini 4) = true := by kernel_rfl
theorem a11_5 (L C : Nat) : chkE (fun b => isT (run (@tabS TE 11) 1000 noY 3 (argsE b (L + 5) C) .leaf 0)) [0, 0] 4 (ini 4) = true := by kernel_rfl
theorem n12 : isT (run (@tabS TE 12) 1000 noY 3 argsN .leaf 0) = true := by kernel_rfl
theorem a12_0 (C : Nat) : chkE (fun b => isT (run (@tabS TE 12) 1000 noY 3 (argsE b 0 C) .leaf 0)) [0, 0] 0 (ini 0) = true := by kernel_rfl
theorem a12_1 (C : Nat) : chkE (fun b => isT (run (@tabS TE 12) 1000 noY 3 (argsE b 1 C) .leaf 0)) [0, 0] 1 (ini 1) = true := by kernel_rfl
theorem a12_2 (C : Nat) : chkE (fun b => isT (run (@tabS TE 12) 1000 noY 3 (argsE b 2 C) .leaf 0)) [0, 0] 2 (ini 2) = true := by kernel_rfl
theorem a12_3 (C : Nat) : chkE (fun b => isT (run (@tabS TE 12) 1000 noY 3 (argsE b 3 C) .leaf 0)) [0, 0] 3 (ini 3) = true := by kernel_rfl
theorem a12_4 (C : Nat) : chkE (fun b => isT (run (@tabS TE 12) 1000 noY 3 (argsE b 4 C) .leaf 0)) [0, 0] 4 (ini 4) = true := by kernel_rfl
theorem a12_5 (L C : Nat) : chkE (fun b => isT (run (@tabS TE 12) 1000 noY 3 (argsE b (L + 5) C) .leaf 0)) [0, 0] 4 (ini 4) = true := by kernel_rfl
theorem n13 : isT (run (@tabS TE 13) 1000 noY 3 argsN .leaf 0) = true := by kernel_rfl
theorem a13_0 (C : Nat) : chkE (fun b => isT (run (@tabS TE 13) 1000 noY 3 (argsE b 0 C) .leaf 0)) [0] 0 (ini 0) = true := by kernel_rfl
theorem a13_1 (C : Nat) : chkE (fun b => isT (run (@tabS TE 13) 1000 noY 3 (argsE b 1 C) .leaf 0)) [0] 1 (ini 1) = true := by kernel_rfl
theorem a13_2 (C : Nat) : chkE (fun b => isT (run (@tabS TE 13) 1000 noY 3 (argsE b 2 C) .leaf 0)) [0] 2 (ini 2) = true := by kernel_rfl
theorem a13_3 (C : Nat) : chkE (fun b => isT (run (@tabS TE 13) 1000 noY 3 (argsE b 3 C) .leaf 0)) [0] 3 (ini 3) = true := by kernel_rfl
theorem a13_4 (C : Nat) : chkE (fun b => isT (run (@tabS TE 13) 1000 noY 3 (argsE b 4 C) .leaf 0)) [0] 4 (ini 4) = true := by kernel_rfl
theorem a13_5 (L C : Nat) : chkE (fun b => isT (run (@tabS TE 13) 1000 noY 3 (argsE b (L + 5) C) .leaf 0)) [0] 4 (ini 4) = true := by kernel_rfl
theorem n14 : isT (run (@tabS TE 14) 1000 noY 3 argsN .leaf 0) = true := by kernel_rfl
theorem a14_0 (C : Nat) : chkE (fun b => isT (run (@tabS TE 14) 1000 noY 3 (argsE b 0 C) .leaf 0)) [0, 0] 0 (ini 0) = true := by kernel_rfl
theorem a14_1 (C : Nat) : chkE (fun b => isT (run (@tabS TE 14) 1000 noY 3 (argsE b 1 C) .leaf 0)) [0, 0] 1 (ini 1) = true := by kernel_rfl
theorem a14_2 (C : Nat) : chkE (fun b => isT (run (@tabS TE 14) 1000 noY 3 (argsE b 2 C) .leaf 0)) [0, 0] 2 (ini 2) = true := by kernel_rfl
theorem a14_3 (C : Nat) : chkE (fun b => isT (run (@tabS TE 14) 1000 noY 3 (argsE b 3 C) .leaf 0)) [0, 0] 3 (ini 3) = true := by kernel_rfl
theorem a14_4 (C : Nat) : chkE (fun b => isT (run (@tabS TE 14) 1000 noY 3 (argsE b 4 C) .leaf 0)) [0, 0] 4 (ini 4) = true := by kernel_rfl
theorem a14_5 (L C : Nat) : chkE (fun b => isT (run (@tabS TE 14) 1000 noY 3 (argsE b (L + 5) C) .leaf 0)) [0, 0] 4 (ini 4) = true := by kernel_rfl
theorem n15 : isT (run (@tabS TE 15) 1000 noY 3 argsN .leaf 0) = true := by kernel_rfl
theorem a15_0 (C : Nat) : chkE (fun b => isT (run (@tabS TE 15) 1000 noY 3 (argsE b 0 C) .leaf 0)) [0, 0] 0 (ini 0) = true := by kernel_rfl
theorem a15_1 (C : Nat) : chkE (fun b => isT (run (@tabS TE 15) 1000 noY 3 (argsE b 1 C) .leaf 0)) [0, 0] 1 (ini 1) = true := by kernel_rfl
theorem a15_2 (C : Nat) : chkE (fun b => isT (run (@tabS TE 15) 1000 noY 3 (argsE b 2 C) .leaf 0)) [0, 0] 2 (ini 2) = true := by kernel_rfl
theorem a15_3 (C : Nat) : chkE (fun b => isT (run (@tabS TE 15) 1000 noY 3 (argsE b 3 C) .leaf 0)) [0, 0] 3 (ini 3) = true := by kernel_rfl
theorem a15_4 (C : Nat) : chkE (fun b => isT (run (@tabS TE 15) 1000 noY 3 (argsE b 4 C) .leaf 0)) [0, 0] 4 (ini 4) = true := by kernel_rfl
theorem a15_5 (L C : Nat) : chkE (fun b => isT (run (@tabS TE 15) 1000 noY 3 (argsE b (L + 5) C) .leaf 0)) [0, 0] 4 (ini 4) = true := by kernel_rfl
end Go.Proofs.YtpalciklgbabeaaGreatDoor.stepEffects
