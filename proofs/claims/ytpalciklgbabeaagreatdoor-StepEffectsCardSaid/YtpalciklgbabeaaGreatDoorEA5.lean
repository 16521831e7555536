import Derived.Test.YtpalciklgbabeaaGreatDoorEK1
/- What the evaluator answers at each operation of StepEffects. Conditions: none of its own. -/
namespace Go.Proofs.YtpalciklgbabeaaGreatDoor.stepEffects
open Go Ev
theorem n40 : isT (run (@tabS TE 40) 1000 noY 3 argsN .leaf 0) = true := by kernel_rfl
theorem a40_0 (C : Nat) : chkE (fun b => isT (run (@tabS TE 40) 1000 noY 3 (argsE b 0 C) .leaf 0)) [] 0 (ini 0) = true := by kernel_rfl
theorem a40_1 (C : Nat) : chkE (fun b => isT (run (@tabS TE 40) 1000 noY 3 (argsE b 1 C) .leaf 0)) [] 1 (ini 1) = true := by kernel_rfl
theorem a40_2 (C : Nat) : chkE (fun b => isT (run (@tabS TE 40) 1000 noY 3 (argsE b 2 C) .leaf 0)) [] 2 (ini 2) = true := by kernel_rfl
theorem a40_3 (C : Nat) : chkE (fun b => isT (run (@tabS TE 40) 1000 noY 3 (argsE b 3 C) .leaf 0)) [] 3 (ini 3) = true := by kernel_rfl
theorem a40_4 (C : Nat) : chkE (fun b => isT (run (@tabS TE 40) 1000 noY 3 (argsE b 4 C) .leaf 0)) [] 4 (ini 4) = true := by kernel_rfl
theorem a40_5 (L C : Nat) : chkE (fun b => isT (run (@tabS TE 40) 1000 noY 3 (argsE b (L + 5) C) .leaf 0)) [] 4 (ini 4) = true := by kernel_rfl
theorem n41 : isT (run (@tabS TE 41) 1000 noY 3 argsN .leaf 0) = true := by kernel_rfl
theorem a41_0 (C : Nat) : chkE (fun b => isT (run (@tabS TE 41) 1000 noY 3 (argsE b 0 C) .leaf 0)) [] 0 (ini 0) = true := by kernel_rfl
theorem a41_1 (C : Nat) : chkE (fun b => isT (run (@tabS TE 41) 1000 noY 3 (argsE b 1 C) .leaf 0)) [] 1 (ini 1) = true := by kernel_rfl
theorem a41_2 (C : Nat) : chkE (fun b => isT (run (@tabS TE 41) 1000 noY 3 (argsE b 2 C) .leaf 0)) [] 2 (ini 2) = true := by kernel_rfl
theorem a41_3 (C : Nat) : chkE (fun b => isT (run (@tabS TE 41) 1000 noY 3 (argsE b 3 C) .leaf 0)) [] 3 (ini 3) = true := by kernel_rfl
theorem a41_4 (C : Nat) : chkE (fun b => isT (run (@tabS TE 41) 1000 noY 3 (argsE b 4 C) .leaf 0)) [] 4 (ini 4) = true := by kernel_rfl
theorem a41_5 (L C : Nat) : chkE (fun b => isT (run (@tabS TE 41) 1000 noY 3 (argsE b (L + 5) C) .leaf 0)) [] 4 (ini 4) = true := by kernel_rfl
theorem n42 : isT (run (@tabS TE 42) 1000 noY 3 argsN .leaf 0) = true := by kernel_rfl
theorem a42_0 (C : Nat) : chkE (fun b => isT (run (@tabS TE 42) 1000 noY 3 (argsE b 0 C) .leaf 0)) [] 0 (ini 0) = true := by kernel_rfl
theorem a42_1 (C : Nat) : chkE (fun b => isT (run (@tabS TE 42) 1000 noY 3 (argsE b 1 C) .leaf 0)) [] 1 (ini 1) = true := by kernel_rfl
theorem a42_2 (C : Nat) : chkE (fun b => isT (run (@tabS TE 42) 1000 noY 3 (argsE b 2 C) .leaf 0)) [] 2 (ini 2) = true := by kernel_rfl
theorem a42_3 (C : Nat) : chkE (fun b => isT (run (@tabS TE 42) 1000 noY 3 (argsE b 3 C) .leaf 0)) [] 3 (ini 3) = true := by kernel_rfl
theorem a42_4 (C : Nat) : chkE (fun b => isT (run (@tabS TE 42) 1000 noY 3 (argsE b 4 C) .leaf 0)) [] 4 (ini 4) = true := by kernel_rfl
theorem a42_5 (L C : Nat) : chkE (fun b => isT (run (@tabS TE 42) 1000 noY 3 (argsE b (L + 5) C) .leaf 0)) [] 4 (ini 4) = true := by kernel_rfl
theorem n43 : isT (run (@tabS TE 43) 1000 noY 3 argsN .leaf 0) = true := by kernel_rfl
theorem a43_0 (C : Nat) : chkE (fun b => isT (run (@tabS TE 43) 1000 noY 3 (argsE b 0 C) .leaf 0)) [] 0 (ini 0) = true := by kernel_rfl
theorem a43_1 (C : Nat) : chkE (fun b => isT (run (@tabS TE 43) 1000 noY 3 (argsE b 1 C) .leaf 0)) [] 1 (ini 1) = true := by kernel_rfl
theorem a43_2 (C : Nat) : chkE (fun b => isT (run (@tabS TE 43) 1000 noY 3 (argsE b 2 C) .leaf 0)) [] 2 (ini 2) = true := by kernel_rfl
theorem a43_3 (C : Nat) : chkE (fun b => isT (run (@tabS TE 43) 1000 noY 3 (argsE b 3 C) .leaf 0)) [] 3 (ini 3) = true := by kernel_rfl
theorem a43_4 (C : Nat) : chkE (fun b => isT (run (@tabS TE 43) 1000 noY 3 (argsE b 4 C) .leaf 0)) [] 4 (ini 4) = true := by kernel_rfl
theorem a43_5 (L C : Nat) : chkE (fun b => isT (run (@tabS TE 43) 1000 noY 3 (argsE b (L + 5) C) .leaf 0)) [] 4 (ini 4) = true := by kernel_rfl
theorem n44 : isT (run (@tabS TE 44) 1000 noY 3 argsN .leaf 0) = true := by kernel_rfl
theorem a44_0 (C : Nat) : chkE (fun b => isT (run (@tabS TE 44) 1000 noY 3 (argsE b 0 C) .leaf 0)) [] 0 (ini 0) = true := by kernel_rfl
theorem a44_1 (C : Nat) : chkE (fun b => isT (run (@tabS TE 44) 1000 noY 3 (argsE b 1 C) .leaf 0)) [] 1 (ini 1) = true := by kernel_rfl
theorem a44_2 (C : Nat) : chkE (fun b => isT (run (@tabS TE 44) 1000 noY 3 (argsE b 2 C) .leaf 0)) [] 2 (ini 2) = true := by kernel_rfl
theorem a44_3 (C : Nat) : chkE (fun b => isT (run (@tabS TE 44) 1000 noY 3 (argsE b 3 C) .leaf 0)) [] 3 (ini 3) = true := by kernel_rfl
theorem a44_4 (C : Nat) : chkE (fun b => isT (run (@tabS TE 44) 1000 noY 3 (argsE b 4 C) .leaf 0)) [] 4 (ini 4) = true := by kernel_rfl
theorem a44_5 (L C : Nat) : chkE (fun b => isT (run (@tabS TE 44) 1000 noY 3 (argsE b (L + 5) C) .leaf 0)) [] 4 (ini 4) = true := by kernel_rfl
theorem n45 : isT (run (@tabS TE 45) 1000 noY 3 argsN .leaf 0) = true := by kernel_rfl
theorem a45_0 (C : Nat) : chkE (fun b => isT (run (@tabS TE 45) 1000 noY 3 (argsE b 0 C) .leaf 0)) [0] 0 (ini 0) = true := by kernel_rfl
theorem a45_1 (C : Nat) : chkE (fun b => isT (run (@tabS TE 45) 1000 noY 3 (argsE b 1 C) .leaf 0)) [0] 1 (ini 1) = true := by kernel_rfl
theorem a45_2 (C : Nat) : chkE (fun b => isT (run (@tabS TE 45) 1000 noY 3 (argsE b 2 C) .leaf 0)) [0] 2 (ini 2) = true := by kernel_rfl
theorem a45_3 (C : Nat) : chkE (fun b => isT (run (@tabS TE 45) 1000 noY 3 (argsE b 3 C) .leaf 0)) [0] 3 (ini 3) = true := by kernel_rfl
theorem a45_4 (C : Nat) : chkE (fun b => isT (run (@tabS TE 45) 1000 noY 3 (argsE b 4 C) .leaf 0)) [0] 4 (ini 4) = true := by kernel_rfl
theorem a45_5 (L C : Nat) : chkE (fun b => isT (run (@tabS TE 45) 1000 noY 3 (argsE b (L + 5) C) .leaf 0)) [0] 4 (ini 4) = true := by kernel_rfl
end Go.Proofs.YtpalciklgbabeaaGreatDoor.stepEffects
