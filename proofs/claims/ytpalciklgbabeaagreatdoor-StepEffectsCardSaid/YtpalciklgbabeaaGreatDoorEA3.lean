import Derived.Test.YtpalciklgbabeaaGreatDoorEK1
/- What the evaluator answers at each operation of StepEffects. Conditions: none of its own. -/
namespace Go.Proofs.YtpalciklgbabeaaGreatDoor.stepEffects
open Go Ev
theorem n24 : isT (run (@tabS TE 24) 1000 noY 3 argsN .leaf 0) = true := by kernel_rfl
theorem a24_0 (C : Nat) : chkE (fun b => isT (run (@tabS TE 24) 1000 noY 3 (argsE b 0 C) .leaf 0)) [1, 1] 0 (ini 0) = true := by kernel_rfl
theorem a24_1 (C : Nat) : chkE (fun b => isT (run (@tabS TE 24) 1000 noY 3 (argsE b 1 C) .leaf 0)) [1, 1] 1 (ini 1) = true := by kernel_rfl
theorem a24_2 (C : Nat) : chkE (fun b => isT (run (@tabS TE 24) 1000 noY 3 (argsE b 2 C) .leaf 0)) [1, 1] 2 (ini 2) = true := by kernel_rfl
theorem a24_3 (C : Nat) : chkE (fun b => isT (run (@tabS TE 24) 1000 noY 3 (argsE b 3 C) .leaf 0)) [1, 1] 3 (ini 3) = true := by kernel_rfl
theorem a24_4 (C : Nat) : chkE (fun b => isT (run (@tabS TE 24) 1000 noY 3 (argsE b 4 C) .leaf 0)) [1, 1] 4 (ini 4) = true := by kernel_rfl
theorem a24_5 (L C : Nat) : chkE (fun b => isT (run (@tabS TE 24) 1000 noY 3 (argsE b (L + 5) C) .leaf 0)) [1, 1] 4 (ini 4) = true := by kernel_rfl
theorem n25 : isT (run (@tabS TE 25) 1000 noY 3 argsN .leaf 0) = true := by kernel_rfl
theorem a25_0 (C : Nat) : chkE (fun b => isT (run (@tabS TE 25) 1000 noY 3 (argsE b 0 C) .leaf 0)) [] 0 (ini 0) = true := by kernel_rfl
theorem a25_1 (C : Nat) : chkE (fun b => isT (run (@tabS TE 25) 1000 noY 3 (argsE b 1 C) .leaf 0)) [] 1 (ini 1) = true := by kernel_rfl
theorem a25_2 (C : Nat) : chkE (fun b => isT (run (@tabS TE 25) 1000 noY 3 (argsE b 2 C) .leaf 0)) [] 2 (ini 2) = true := by kernel_rfl
theorem a25_3 (C : Nat) : chkE (fun b => isT (run (@tabS TE 25) 1000 noY 3 (argsE b 3 C) .leaf 0)) [] 3 (ini 3) = true := by kernel_rfl
theorem a25_4 (C : Nat) : chkE (fun b => isT (run (@tabS TE 25) 1000 noY 3 (argsE b 4 C) .leaf 0)) [] 4 (ini 4) = true := by kernel_rfl
theorem a25_5 (L C : Nat) : chkE (fun b => isT (run (@tabS TE 25) 1000 noY 3 (argsE b (L + 5) C) .leaf 0)) [] 4 (ini 4) = true := by kernel_rfl
theorem n26 : isT (run (@tabS TE 26) 1000 noY 3 argsN .leaf 0) = true := by kernel_rfl
theorem a26_0 (C : Nat) : chkE (fun b => isT (run (@tabS TE 26) 1000 noY 3 (argsE b 0 C) .leaf 0)) [] 0 (ini 0) = true := by kernel_rfl
theorem a26_1 (C : Nat) : chkE (fun b => isT (run (@tabS TE 26) 1000 noY 3 (argsE b 1 C) .leaf 0)) [] 1 (ini 1) = true := by kernel_rfl
theorem a26_2 (C : Nat) : chkE (fun b => isT (run (@tabS TE 26) 1000 noY 3 (argsE b 2 C) .leaf 0)) [] 2 (ini 2) = true := by kernel_rfl
theorem a26_3 (C : Nat) : chkE (fun b => isT (run (@tabS TE 26) 1000 noY 3 (argsE b 3 C) .leaf 0)) [] 3 (ini 3) = true := by kernel_rfl
theorem a26_4 (C : Nat) : chkE (fun b => isT (run (@tabS TE 26) 1000 noY 3 (argsE b 4 C) .leaf 0)) [] 4 (ini 4) = true := by kernel_rfl
theorem a26_5 (L C : Nat) : chkE (fun b => isT (run (@tabS TE 26) 1000 noY 3 (argsE b (L + 5) C) .leaf 0)) [] 4 (ini 4) = true := by kernel_rfl
theorem n27 : isT (run (@tabS TE 27) 1000 noY 3 argsN .leaf 0) = true := by kernel_rfl
theorem a27_0 (C : Nat) : chkE (fun b => isT (run (@tabS TE 27) 1000 noY 3 (argsE b 0 C) .leaf 0)) [] 0 (ini 0) = true := by kernel_rfl
theorem a27_1 (C : Nat) : chkE (fun b => isT (run (@tabS TE 27) 1000 noY 3 (argsE b 1 C) .leaf 0)) [] 1 (ini 1) = true := by kernel_rfl
theorem a27_2 (C : Nat) : chkE (fun b => isT (run (@tabS TE 27) 1000 noY 3 (argsE b 2 C) .leaf 0)) [] 2 (ini 2) = true := by kernel_rfl
theorem a27_3 (C : Nat) : chkE (fun b => isT (run (@tabS TE 27) 1000 noY 3 (argsE b 3 C) .leaf 0)) [] 3 (ini 3) = true := by kernel_rfl
theorem a27_4 (C : Nat) : chkE (fun b => isT (run (@tabS TE 27) 1000 noY 3 (argsE b 4 C) .leaf 0)) [] 4 (ini 4) = true := by kernel_rfl
theorem a27_5 (L C : Nat) : chkE (fun b => isT (run (@tabS TE 27) 1000 noY 3 (argsE b (L + 5) C) .leaf 0)) [] 4 (ini 4) = true := by kernel_rfl
theorem n28 : isT (run (@tabS TE 28) 1000 noY 3 argsN .leaf 0) = true := by kernel_rfl
theorem a28_0 (C : Nat) : chkE (fun b => isT (run (@tabS TE 28) 1000 noY 3 (argsE b 0 C) .leaf 0)) [] 0 (ini 0) = true := by kernel_rfl
theorem a28_1 (C : Nat) : chkE (fun b => isT (run (@tabS TE 28) 1000 noY 3 (argsE b 1 C) .leaf 0)) [] 1 (ini 1) = true := by kernel_rfl
theorem a28_2 (C : Nat) : chkE (fun b => isT (run (@tabS TE 28) 1000 noY 3 (argsE b 2 C) .leaf 0)) [] 2 (ini 2) = true := by kernel_rfl
theorem a28_3 (C : Nat) : chkE (fun b => isT (run (@tabS TE 28) 1000 noY 3 (argsE b 3 C) .leaf 0)) [] 3 (ini 3) = true := by kernel_rfl
theorem a28_4 (C : Nat) : chkE (fun b => isT (run (@tabS TE 28) 1000 noY 3 (argsE b 4 C) .leaf 0)) [] 4 (ini 4) = true := by kernel_rfl
theorem a28_5 (L C : Nat) : chkE (fun b => isT (run (@tabS TE 28) 1000 noY 3 (argsE b (L + 5) C) .leaf 0)) [] 4 (ini 4) = true := by kernel_rfl
theorem n29 : isT (run (@tabS TE 29) 1000 noY 3 argsN .leaf 0) = true := by kernel_rfl
theorem a29_0 (C : Nat) : chkE (fun b => isT (run (@tabS TE 29) 1000 noY 3 (argsE b 0 C) .leaf 0)) [] 0 (ini 0) = true := by kernel_rfl
theorem a29_1 (C : Nat) : chkE (fun b => isT (run (@tabS TE 29) 1000 noY 3 (argsE b 1 C) .leaf 0)) [] 1 (ini 1) = true := by kernel_rfl
theorem a29_2 (C : Nat) : chkE (fun b => isT (run (@tabS TE 29) 1000 noY 3 (argsE b 2 C) .leaf 0)) [] 2 (ini 2) = true := by kernel_rfl
theorem a29_3 (C : Nat) : chkE (fun b => isT (run (@tabS TE 29) 1000 noY 3 (argsE b 3 C) .leaf 0)) [] 3 (ini 3) = true := by kernel_rfl
theorem a29_4 (C : Nat) : chkE (fun b => isT (run (@tabS TE 29) 1000 noY 3 (argsE b 4 C) .leaf 0)) [] 4 (ini 4) = true := by kernel_rfl
theorem a29_5 (L C : Nat) : chkE (fun b => isT (run (@tabS TE 29) 1000 noY 3 (argsE b (L + 5) C) .leaf 0)) [] 4 (ini 4) = true := by kernel_rfl
theorem n30 : isT (run (@tabS TE 30) 1000 noY 3 argsN .leaf 0) = true := by kernel_rfl
theorem a30_0 (C : Nat) : chkE (fun b => isT (run (@tabS TE 30) 1000 noY 3 (argsE b 0 C) .leaf 0)) [] 0 (ini 0) = true := by kernel_rfl
theorem a30_1 (C : Nat) : chkE (fun b => isT (run (@tabS TE 30) 1000 noY 3 (argsE b 1 C) .leaf 0)) [] 1 (ini 1) = true := by kernel_rfl
theorem a30_2 (C : Nat) : chkE (fun b => isT (run (@tabS TE 30) 1000 noY 3 (argsE b 2 C) .leaf 0)) [] 2 (ini 2) = true := by kernel_rfl
theorem a30_3 (C : Nat) : chkE (fun b => isT (run (@tabS TE 30) 1000 noY 3 (argsE b 3 C) .leaf 0)) [] 3 (ini 3) = true := by kernel_rfl
theorem a30_4 (C : Nat) : chkE (fun b => isT (run (@tabS TE 30) 1000 noY 3 (argsE b 4 C) .leaf 0)) [] 4 (ini 4) = true := by kernel_rfl
theorem a30_5 (L C : Nat) : chkE (fun b => isT (run (@tabS TE 30) 1000 noY 3 (argsE b (L + 5) C) .leaf 0)) [] 4 (ini 4) = true := by kernel_rfl
theorem n31 : isT (run (@tabS TE 31) 1000 noY 3 argsN .leaf 0) = true := by kernel_rfl
theorem a31_0 (C : Nat) : chkE (fun b => isT (run (@tabS TE 31) 1000 noY 3 (argsE b 0 C) .leaf 0)) [0, 2] 0 (ini 0) = true := by kernel_rfl
theorem a31_1 (C : Nat) : chkE (fun b => isT (run (@tabS TE 31) 1000 noY 3 (argsE b 1 C) .leaf 0)) [0, 2] 1 (ini 1) = true := by kernel_rfl
theorem a31_2 (C : Nat) : chkE (fun b => isT (run (@tabS TE 31) 1000 noY 3 (argsE b 2 C) .leaf 0)) [0, 2] 2 (ini 2) = true := by kernel_rfl
theorem a31_3 (C : Nat) : chkE (fun b => isT (run (@tabS TE 31) 1000 noY 3 (argsE b 3 C) .leaf 0)) [0, 2] 3 (ini 3) = true := by kernel_rfl
theorem a31_4 (C : Nat) : chkE (fun b => isT (run (@tabS TE 31) 1000 noY 3 (argsE b 4 C) .leaf 0)) [0, 2] 4 (ini 4) = true := by kernel_rfl
theorem a31_5 (L C : Nat) : chkE (fun b => isT (run (@tabS TE 31) 1000 noY 3 (argsE b (L + 5) C) .leaf 0)) [0, 2] 4 (ini 4) = true := by kernel_rfl
end Go.Proofs.YtpalciklgbabeaaGreatDoor.stepEffects
