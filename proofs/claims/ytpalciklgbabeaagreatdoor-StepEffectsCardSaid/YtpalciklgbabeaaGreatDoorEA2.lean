import Derived.Test.YtpalciklgbabeaaGreatDoorEK1
/- What the evaluator answers at each operation of StepEffects. Conditions: none of its own. -/
namespace Go.Proofs.YtpalciklgbabeaaGreatDoor.stepEffects
open Go Ev
theorem n16 : isT (run (@tabS TE 16) 1000 noY 3 argsN .leaf 0) = true := by kernel_rfl
theorem a16_0 (C : Nat) : chkE (fun b => isT (run (@tabS TE 16) 1000 noY 3 (argsE b 0 C) .leaf 0)) [0, 0] 0 (ini 0) = true := by kernel_rfl
theorem a16_1 (C : Nat) : chkE (fun b => isT (run (@tabS TE 16) 1000 noY 3 (argsE b 1 C) .leaf 0)) [0, 0] 1 (ini 1) = true := by kernel_rfl
theorem a16_2 (C : Nat) : chkE (fun b => isT (run (@tabS TE 16) 1000 noY 3 (argsE b 2 C) .leaf 0)) [0, 0] 2 (ini 2) = true := by kernel_rfl
theorem a16_3 (C : Nat) : chkE (fun b => isT (run (@tabS TE 16) 1000 noY 3 (argsE b 3 C) .leaf 0)) [0, 0] 3 (ini 3) = true := by kernel_rfl
theorem a16_4 (C : Nat) : chkE (fun b => isT (run (@tabS TE 16) 1000 noY 3 (argsE b 4 C) .leaf 0)) [0, 0] 4 (ini 4) = true := by kernel_rfl
theorem a16_5 (L C : Nat) : chkE (fun b => isT (run (@tabS TE 16) 1000 noY 3 (argsE b (L + 5) C) .leaf 0)) [0, 0] 4 (ini 4) = true := by kernel_rfl
theorem n17 : isT (run (@tabS TE 17) 1000 noY 3 argsN .leaf 0) = true := by kernel_rfl
theorem a17_0 (C : Nat) : chkE (fun b => isT (run (@tabS TE 17) 1000 noY 3 (argsE b 0 C) .leaf 0)) [0, 0] 0 (ini 0) = true := by kernel_rfl
theorem a17_1 (C : Nat) : chkE (fun b => isT (run (@tabS TE 17) 1000 noY 3 (argsE b 1 C) .leaf 0)) [0, 0] 1 (ini 1) = true := by kernel_rfl
theorem a17_2 (C : Nat) : chkE (fun b => isT (run (@tabS TE 17) 1000 noY 3 (argsE b 2 C) .leaf 0)) [0, 0] 2 (ini 2) = true := by kernel_rfl
theorem a17_3 (C : Nat) : chkE (fun b => isT (run (@tabS TE 17) 1000 noY 3 (argsE b 3 C) .leaf 0)) [0, 0] 3 (ini 3) = true := by kernel_rfl
theorem a17_4 (C : Nat) : chkE (fun b => isT (run (@tabS TE 17) 1000 noY 3 (argsE b 4 C) .leaf 0)) [0, 0] 4 (ini 4) = true := by kernel_rfl
theorem a17_5 (L C : Nat) : chkE (fun b => isT (run (@tabS TE 17) 1000 noY 3 (argsE b (L + 5) C) .leaf 0)) [0, 0] 4 (ini 4) = true := by kernel_rfl
theorem n18 : isT (run (@tabS TE 18) 1000 noY 3 argsN .leaf 0) = true := by kernel_rfl
theorem a18_0 (C : Nat) : chkE (fun b => isT (run (@tabS TE 18) 1000 noY 3 (argsE b 0 C) .leaf 0)) [0, 0] 0 (ini 0) = true := by kernel_rfl
theorem a18_1 (C : Nat) : chkE (fun b => isT (run (@tabS TE 18) 1000 noY 3 (argsE b 1 C) .leaf 0)) [0, 0] 1 (ini 1) = true := by kernel_rfl
theorem a18_2 (C : Nat) : chkE (fun b => isT (run (@tabS TE 18) 1000 noY 3 (argsE b 2 C) .leaf 0)) [0, 0] 2 (ini 2) = true := by kernel_rfl
theorem a18_3 (C : Nat) : chkE (fun b => isT (run (@tabS TE 18) 1000 noY 3 (argsE b 3 C) .leaf 0)) [0, 0] 3 (ini 3) = true := by kernel_rfl
theorem a18_4 (C : Nat) : chkE (fun b => isT (run (@tabS TE 18) 1000 noY 3 (argsE b 4 C) .leaf 0)) [0, 0] 4 (ini 4) = true := by kernel_rfl
theorem a18_5 (L C : Nat) : chkE (fun b => isT (run (@tabS TE 18) 1000 noY 3 (argsE b (L + 5) C) .leaf 0)) [0, 0] 4 (ini 4) = true := by kernel_rfl
theorem n19 : isT (run (@tabS TE 19) 1000 noY 3 argsN .leaf 0) = true := by kernel_rfl
theorem a19_0 (C : Nat) : chkE (fun b => isT (run (@tabS TE 19) 1000 noY 3 (argsE b 0 C) .leaf 0)) [] 0 (ini 0) = true := by kernel_rfl
theorem a19_1 (C : Nat) : chkE (fun b => isT (run (@tabS TE 19) 1000 noY 3 (argsE b 1 C) .leaf 0)) [] 1 (ini 1) = true := by kernel_rfl
theorem a19_2 (C : Nat) : chkE (fun b => isT (run (@tabS TE 19) 1000 noY 3 (argsE b 2 C) .leaf 0)) [] 2 (ini 2) = true := by kernel_rfl
theorem a19_3 (C : Nat) : chkE (fun b => isT (run (@tabS TE 19) 1000 noY 3 (argsE b 3 C) .leaf 0)) [] 3 (ini 3) = true := by kernel_rfl
theorem a19_4 (C : Nat) : chkE (fun b => isT (run (@tabS TE 19) 1000 noY 3 (argsE b 4 C) .leaf 0)) [] 4 (ini 4) = true := by kernel_rfl
theorem a19_5 (L C : Nat) : chkE (fun b => isT (run (@tabS TE 19) 1000 noY 3 (argsE b (L + 5) C) .leaf 0)) [] 4 (ini 4) = true := by kernel_rfl
theorem n20 : isT (run (@tabS TE 20) 1000 noY 3 argsN .leaf 0) = true := by kernel_rfl
theorem a20_0 (C : Nat) : chkE (fun b => isT (run (@tabS TE 20) 1000 noY 3 (argsE b 0 C) .leaf 0)) [0] 0 (ini 0) = true := by kernel_rfl
theorem a20_1 (C : Nat) : chkE (fun b => isT (run (@tabS TE 20) 1000 noY 3 (argsE b 1 C) .leaf 0)) [0] 1 (ini 1) = true := by kernel_rfl
theorem a20_2 (C : Nat) : chkE (fun b => isT (run (@tabS TE 20) 1000 noY 3 (argsE b 2 C) .leaf 0)) [0] 2 (ini 2) = true := by kernel_rfl
theorem a20_3 (C : Nat) : chkE (fun b => isT (run (@tabS TE 20) 1000 noY 3 (argsE b 3 C) .leaf 0)) [0] 3 (ini 3) = true := by kernel_rfl
theorem a20_4 (C : Nat) : chkE (fun b => isT (run (@tabS TE 20) 1000 noY 3 (argsE b 4 C) .leaf 0)) [0] 4 (ini 4) = true := by kernel_rfl
theorem a20_5 (L C : Nat) : chkE (fun b => isT (run (@tabS TE 20) 1000 noY 3 (argsE b (L + 5) C) .leaf 0)) [0] 4 (ini 4) = true := by kernel_rfl
theorem n21 : isT (run (@tabS TE 21) 1000 noY 3 argsN .leaf 0) = true := by kernel_rfl
theorem a21_0 (C : Nat) : chkE (fun b => isT (run (@tabS TE 21) 1000 noY 3 (argsE b 0 C) .leaf 0)) [0] 0 (ini 0) = true := by kernel_rfl
theorem a21_1 (C : Nat) : chkE (fun b => isT (run (@tabS TE 21) 1000 noY 3 (argsE b 1 C) .leaf 0)) [0] 1 (ini 1) = true := by kernel_rfl
theorem a21_2 (C : Nat) : chkE (fun b => isT (run (@tabS TE 21) 1000 noY 3 (argsE b 2 C) .leaf 0)) [0] 2 (ini 2) = true := by kernel_rfl
theorem a21_3 (C : Nat) : chkE (fun b => isT (run (@tabS TE 21) 1000 noY 3 (argsE b 3 C) .leaf 0)) [0] 3 (ini 3) = true := by kernel_rfl
theorem a21_4 (C : Nat) : chkE (fun b => isT (run (@tabS TE 21) 1000 noY 3 (argsE b 4 C) .leaf 0)) [0] 4 (ini 4) = true := by kernel_rfl
theorem a21_5 (L C : Nat) : chkE (fun b => isT (run (@tabS TE 21) 1000 noY 3 (argsE b (L + 5) C) .leaf 0)) [0] 4 (ini 4) = true := by kernel_rfl
theorem n22 : isT (run (@tabS TE 22) 1000 noY 3 argsN .leaf 0) = true := by kernel_rfl
theorem a22_0 (C : Nat) : chkE (fun b => isT (run (@tabS TE 22) 1000 noY 3 (argsE b 0 C) .leaf 0)) [0, 0] 0 (ini 0) = true := by kernel_rfl
theorem a22_1 (C : Nat) : chkE (fun b => isT (run (@tabS TE 22) 1000 noY 3 (argsE b 1 C) .leaf 0)) [0, 0] 1 (ini 1) = true := by kernel_rfl
theorem a22_2 (C : Nat) : chkE (fun b => isT (run (@tabS TE 22) 1000 noY 3 (argsE b 2 C) .leaf 0)) [0, 0] 2 (ini 2) = true := by kernel_rfl
theorem a22_3 (C : Nat) : chkE (fun b => isT (run (@tabS TE 22) 1000 noY 3 (argsE b 3 C) .leaf 0)) [0, 0] 3 (ini 3) = true := by kernel_rfl
theorem a22_4 (C : Nat) : chkE (fun b => isT (run (@tabS TE 22) 1000 noY 3 (argsE b 4 C) .leaf 0)) [0, 0] 4 (ini 4) = true := by kernel_rfl
theorem a22_5 (L C : Nat) : chkE (fun b => isT (run (@tabS TE 22) 1000 noY 3 (argsE b (L + 5) C) .leaf 0)) [0, 0] 4 (ini 4) = true := by kernel_rfl
theorem n23 : isT (run (@tabS TE 23) 1000 noY 3 argsN .leaf 0) = true := by kernel_rfl
theorem a23_0 (C : Nat) : chkE (fun b => isT (run (@tabS TE 23) 1000 noY 3 (argsE b 0 C) .leaf 0)) [1] 0 (ini 0) = true := by kernel_rfl
theorem a23_1 (C : Nat) : chkE (fun b => isT (run (@tabS TE 23) 1000 noY 3 (argsE b 1 C) .leaf 0)) [1] 1 (ini 1) = true := by kernel_rfl
theorem a23_2 (C : Nat) : chkE (fun b => isT (run (@tabS TE 23) 1000 noY 3 (argsE b 2 C) .leaf 0)) [1] 2 (ini 2) = true := by kernel_rfl
theorem a23_3 (C : Nat) : chkE (fun b => isT (run (@tabS TE 23) 1000 noY 3 (argsE b 3 C) .leaf 0)) [1] 3 (ini 3) = true := by kernel_rfl
theorem a23_4 (C : Nat) : chkE (fun b => isT (run (@tabS TE 23) 1000 noY 3 (argsE b 4 C) .leaf 0)) [1] 4 (ini 4) = true := by kernel_rfl
theorem a23_5 (L C : Nat) : chkE (fun b => isT (run (@tabS TE 23) 1000 noY 3 (argsE b (L + 5) C) .leaf 0)) [1] 4 (ini 4) = true := by kernel_rfl
end Go.Proofs.YtpalciklgbabeaaGreatDoor.stepEffects
