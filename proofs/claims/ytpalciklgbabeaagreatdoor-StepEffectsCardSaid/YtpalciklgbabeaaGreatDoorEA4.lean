import Derived.Test.YtpalciklgbabeaaGreatDoorEK1
/- What the evaluator answers at each operation of StepEffects. Conditions: none of its own. -/
namespace Go.Proofs.YtpalciklgbabeaaGreatDoor.stepEffects
open Go Ev
theorem n32 : isT (run (@tabS TE 32) 1000 noY 3 argsN .leaf 0) = true := by kernel_rfl
theorem a32_0 (C : Nat) : chkE (fun b => isT (run (@tabS TE 32) 1000 noY 3 (argsE b 0 C) .leaf 0)) [0, 0, 2] 0 (ini 0) = true := by kernel_rfl
theorem a32_1 (C : Nat) : chkE (fun b => isT (run (@tabS TE 32) 1000 noY 3 (argsE b 1 C) .leaf 0)) [0, 0, 2] 1 (ini 1) = true := by kernel_rfl
theorem a32_2 (C : Nat) : chkE (fun b => isT (run (@tabS TE 32) 1000 noY 3 (argsE b 2 C) .leaf 0)) [0, 0, 2] 2 (ini 2) = true := by kernel_rfl
theorem a32_3 (C : Nat) : chkE (fun b => isT (run (@tabS TE 32) 1000 noY 3 (argsE b 3 C) .leaf 0)) [0, 0, 2] 3 (ini 3) = true := by kernel_rfl
theorem a32_4 (C : Nat) : chkE (fun b => isT (run (@tabS TE 32) 1000 noY 3 (argsE b 4 C) .leaf 0)) [0, 0, 2] 4 (ini 4) = true := by kernel_rfl
theorem a32_5 (L C : Nat) : chkE (fun b => isT (run (@tabS TE 32) 1000 noY 3 (argsE b (L + 5) C) .leaf 0)) [0, 0, 2] 4 (ini 4) = true := by kernel_rfl
theorem n33 : isT (run (@tabS TE 33) 1000 noY 3 argsN .leaf 0) = true := by kernel_rfl
theorem a33_0 (C : Nat) : chkE (fun b => isT (run (@tabS TE 33) 1000 noY 3 (argsE b 0 C) .leaf 0)) [] 0 (ini 0) = true := by kernel_rfl
theorem a33_1 (C : Nat) : chkE (fun b => isT (run (@tabS TE 33) 1000 noY 3 (argsE b 1 C) .leaf 0)) [] 1 (ini 1) = true := by kernel_rfl
theorem a33_2 (C : Nat) : chkE (fun b => isT (run (@tabS TE 33) 1000 noY 3 (argsE b 2 C) .leaf 0)) [] 2 (ini 2) = true := by kernel_rfl
theorem a33_3 (C : Nat) : chkE (fun b => isT (run (@tabS TE 33) 1000 noY 3 (argsE b 3 C) .leaf 0)) [] 3 (ini 3) = true := by kernel_rfl
theorem a33_4 (C : Nat) : chkE (fun b => isT (run (@tabS TE 33) 1000 noY 3 (argsE b 4 C) .leaf 0)) [] 4 (ini 4) = true := by kernel_rfl
theorem a33_5 (L C : Nat) : chkE (fun b => isT (run (@tabS TE 33) 1000 noY 3 (argsE b (L + 5) C) .leaf 0)) [] 4 (ini 4) = true := by kernel_rfl
theorem n34 : isT (run (@tabS TE 34) 1000 noY 3 argsN .leaf 0) = true := by kernel_rfl
theorem a34_0 (C : Nat) : chkE (fun b => isT (run (@tabS TE 34) 1000 noY 3 (argsE b 0 C) .leaf 0)) [] 0 (ini 0) = true := by kernel_rfl
theorem a34_1 (C : Nat) : chkE (fun b => isT (run (@tabS TE 34) 1000 noY 3 (argsE b 1 C) .leaf 0)) [] 1 (ini 1) = true := by kernel_rfl
theorem a34_2 (C : Nat) : chkE (fun b => isT (run (@tabS TE 34) 1000 noY 3 (argsE b 2 C) .leaf 0)) [] 2 (ini 2) = true := by kernel_rfl
theorem a34_3 (C : Nat) : chkE (fun b => isT (run (@tabS TE 34) 1000 noY 3 (argsE b 3 C) .leaf 0)) [] 3 (ini 3) = true := by kernel_rfl
theorem a34_4 (C : Nat) : chkE (fun b => isT (run (@tabS TE 34) 1000 noY 3 (argsE b 4 C) .leaf 0)) [] 4 (ini 4) = true := by kernel_rfl
theorem a34_5 (L C : Nat) : chkE (fun b => isT (run (@tabS TE 34) 1000 noY 3 (argsE b (L + 5) C) .leaf 0)) [] 4 (ini 4) = true := by kernel_rfl
theorem n35 : isT (run (@tabS TE 35) 1000 noY 3 argsN .leaf 0) = true := by kernel_rfl
theorem a35_0 (C : Nat) : chkE (fun b => isT (run (@tabS TE 35) 1000 noY 3 (argsE b 0 C) .leaf 0)) [3] 0 (ini 0) = true := by kernel_rfl
theorem a35_1 (C : Nat) : chkE (fun b => isT (run (@tabS TE 35) 1000 noY 3 (argsE b 1 C) .leaf 0)) [3] 1 (ini 1) = true := by kernel_rfl
theorem a35_2 (C : Nat) : chkE (fun b => isT (run (@tabS TE 35) 1000 noY 3 (argsE b 2 C) .leaf 0)) [3] 2 (ini 2) = true := by kernel_rfl
theorem a35_3 (C : Nat) : chkE (fun b => isT (run (@tabS TE 35) 1000 noY 3 (argsE b 3 C) .leaf 0)) [3] 3 (ini 3) = true := by kernel_rfl
theorem a35_4 (C : Nat) : chkE (fun b => isT (run (@tabS TE 35) 1000 noY 3 (argsE b 4 C) .leaf 0)) [3] 4 (ini 4) = true := by kernel_rfl
theorem a35_5 (L C : Nat) : chkE (fun b => isT (run (@tabS TE 35) 1000 noY 3 (argsE b (L + 5) C) .leaf 0)) [3] 4 (ini 4) = true := by kernel_rfl
theorem n36 : isT (run (@tabS TE 36) 1000 noY 3 argsN .leaf 0) = true := by kernel_rfl
theorem a36_0 (C : Nat) : chkE (fun b => isT (run (@tabS TE 36) 1000 noY 3 (argsE b 0 C) .leaf 0)) [] 0 (ini 0) = true := by kernel_rfl
theorem a36_1 (C : Nat) : chkE (fun b => isT (run (@tabS TE 36) 1000 noY 3 (argsE b 1 C) .leaf 0)) [] 1 (ini 1) = true := by kernel_rfl
theorem a36_2 (C : Nat) : chkE (fun b => isT (run (@tabS TE 36) 1000 noY 3 (argsE b 2 C) .leaf 0)) [] 2 (ini 2) = true := by kernel_rfl
theorem a36_3 (C : Nat) : chkE (fun b => isT (run (@tabS TE 36) 1000 noY 3 (argsE b 3 C) .leaf 0)) [] 3 (ini 3) = true := by kernel_rfl
theorem a36_4 (C : Nat) : chkE (fun b => isT (run (@tabS TE 36) 1000 noY 3 (argsE b 4 C) .leaf 0)) [] 4 (ini 4) = true := by kernel_rfl
theorem a36_5 (L C : Nat) : chkE (fun b => isT (run (@tabS TE 36) 1000 noY 3 (argsE b (L + 5) C) .leaf 0)) [] 4 (ini 4) = true := by kernel_rfl
theorem n37 : isT (run (@tabS TE 37) 1000 noY 3 argsN .leaf 0) = true := by kernel_rfl
theorem a37_0 (C : Nat) : chkE (fun b => isT (run (@tabS TE 37) 1000 noY 3 (argsE b 0 C) .leaf 0)) [] 0 (ini 0) = true := by kernel_rfl
theorem a37_1 (C : Nat) : chkE (fun b => isT (run (@tabS TE 37) 1000 noY 3 (argsE b 1 C) .leaf 0)) [] 1 (ini 1) = true := by kernel_rfl
theorem a37_2 (C : Nat) : chkE (fun b => isT (run (@tabS TE 37) 1000 noY 3 (argsE b 2 C) .leaf 0)) [] 2 (ini 2) = true := by kernel_rfl
theorem a37_3 (C : Nat) : chkE (fun b => isT (run (@tabS TE 37) 1000 noY 3 (argsE b 3 C) .leaf 0)) [] 3 (ini 3) = true := by kernel_rfl
theorem a37_4 (C : Nat) : chkE (fun b => isT (run (@tabS TE 37) 1000 noY 3 (argsE b 4 C) .leaf 0)) [] 4 (ini 4) = true := by kernel_rfl
theorem a37_5 (L C : Nat) : chkE (fun b => isT (run (@tabS TE 37) 1000 noY 3 (argsE b (L + 5) C) .leaf 0)) [] 4 (ini 4) = true := by kernel_rfl
theorem n38 : isT (run (@tabS TE 38) 1000 noY 3 argsN .leaf 0) = true := by kernel_rfl
theorem a38_0 (C : Nat) : chkE (fun b => isT (run (@tabS TE 38) 1000 noY 3 (argsE b 0 C) .leaf 0)) [] 0 (ini 0) = true := by kernel_rfl
theorem a38_1 (C : Nat) : chkE (fun b => isT (run (@tabS TE 38) 1000 noY 3 (argsE b 1 C) .leaf 0)) [] 1 (ini 1) = true := by kernel_rfl
theorem a38_2 (C : Nat) : chkE (fun b => isT (run (@tabS TE 38) 1000 noY 3 (argsE b 2 C) .leaf 0)) [] 2 (ini 2) = true := by kernel_rfl
theorem a38_3 (C : Nat) : chkE (fun b => isT (run (@tabS TE 38) 1000 noY 3 (argsE b 3 C) .leaf 0)) [] 3 (ini 3) = true := by kernel_rfl
theorem a38_4 (C : Nat) : chkE (fun b => isT (run (@tabS TE 38) 1000 noY 3 (argsE b 4 C) .leaf 0)) [] 4 (ini 4) = true := by kernel_rfl
theorem a38_5 (L C : Nat) : chkE (fun b => isT (run (@tabS TE 38) 1000 noY 3 (argsE b (L + 5) C) .leaf 0)) [] 4 (ini 4) = true := by kernel_rfl
theorem n39 : isT (run (@tabS TE 39) 1000 noY 3 argsN .leaf 0) = true := by kernel_rfl
theorem a39_0 (C : Nat) : chkE (fun b => isT (run (@tabS TE 39) 1000 noY 3 (argsE b 0 C) .leaf 0)) [] 0 (ini 0) = true := by kernel_rfl
theorem a39_1 (C : Nat) : chkE (fun b => isT (run (@tabS TE 39) 1000 noY 3 (argsE b 1 C) .leaf 0)) [] 1 (ini 1) = true := by kernel_rfl
theorem a39_2 (C : Nat) : chkE (fun b => isT (run (@tabS TE 39) 1000 noY 3 (argsE b 2 C) .leaf 0)) [] 2 (ini 2) = true := by kernel_rfl
theorem a39_3 (C : Nat) : chkE (fun b => isT (run (@tabS TE 39) 1000 noY 3 (argsE b 3 C) .leaf 0)) [] 3 (ini 3) = true := by kernel_rfl
theorem a39_4 (C : Nat) : chkE (fun b => isT (run (@tabS TE 39) 1000 noY 3 (argsE b 4 C) .leaf 0)) [] 4 (ini 4) = true := by kernel_rfl
theorem a39_5 (L C : Nat) : chkE (fun b => isT (run (@tabS TE 39) 1000 noY 3 (argsE b (L + 5) C) .leaf 0)) [] 4 (ini 4) = true := by kernel_rfl
end Go.Proofs.YtpalciklgbabeaaGreatDoor.stepEffects
