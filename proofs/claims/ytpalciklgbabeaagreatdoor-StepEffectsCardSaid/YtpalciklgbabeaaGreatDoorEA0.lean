import Derived.Test.YtpalciklgbabeaaGreatDoorEK1
/- What the evaluator answers at each operation of StepEffects. Conditions: none of its own. -/
namespace Go.Proofs.YtpalciklgbabeaaGreatDoor.stepEffects
open Go Ev
theorem n0 : isT (run (@tabS TE 0) 1000 noY 3 argsN .leaf 0) = true := by kernel_rfl
theorem a0_0 (C : Nat) : chkE (fun b => isT (run (@tabS TE 0) 1000 noY 3 (argsE b 0 C) .leaf 0)) [] 0 (ini 0) = true := by kernel_rfl
theorem a0_1 (C : Nat) : chkE (fun b => isT (run (@tabS TE 0) 1000 noY 3 (argsE b 1 C) .leaf 0)) [] 1 (ini 1) = true := by kernel_rfl
theorem a0_2 (C : Nat) : chkE (fun b => isT (run (@tabS TE 0) 1000 noY 3 (argsE b 2 C) .leaf 0)) [] 2 (ini 2) = true := by kernel_rfl
theorem a0_3 (C : Nat) : chkE (fun b => isT (run (@tabS TE 0) 1000 noY 3 (argsE b 3 C) .leaf 0)) [] 3 (ini 3) = true := by kernel_rfl
theorem a0_4 (C : Nat) : chkE (fun b => isT (run (@tabS TE 0) 1000 noY 3 (argsE b 4 C) .leaf 0)) [] 4 (ini 4) = true := by kernel_rfl
theorem a0_5 (L C : Nat) : chkE (fun b => isT (run (@tabS TE 0) 1000 noY 3 (argsE b (L + 5) C) .leaf 0)) [] 4 (ini 4) = true := by kernel_rfl
theorem n1 : isT (run (@tabS TE 1) 1000 noY 3 argsN .leaf 0) = true := by kernel_rfl
theorem a1_0 (C : Nat) : chkE (fun b => isT (run (@tabS TE 1) 1000 noY 3 (argsE b 0 C) .leaf 0)) [] 0 (ini 0) = true := by kernel_rfl
theorem a1_1 (C : Nat) : chkE (fun b => isT (run (@tabS TE 1) 1000 noY 3 (argsE b 1 C) .leaf 0)) [] 1 (ini 1) = true := by kernel_rfl
theorem a1_2 (C : Nat) : chkE (fun b => isT (run (@tabS TE 1) 1000 noY 3 (argsE b 2 C) .leaf 0)) [] 2 (ini 2) = true := by kernel_rfl
theorem a1_3 (C : Nat) : chkE (fun b => isT (run (@tabS TE 1) 1000 noY 3 (argsE b 3 C) .leaf 0)) [] 3 (ini 3) = true := by kernel_rfl
theorem a1_4 (C : Nat) : chkE (fun b => isT (run (@tabS TE 1) 1000 noY 3 (argsE b 4 C) .leaf 0)) [] 4 (ini 4) = true := by kernel_rfl
theorem a1_5 (L C : Nat) : chkE (fun b => isT (run (@tabS TE 1) 1000 noY 3 (argsE b (L + 5) C) .leaf 0)) [] 4 (ini 4) = true := by kernel_rfl
theorem n2 : isT (run (@tabS TE 2) 1000 noY 3 argsN .leaf 0) = true := by kernel_rfl
theorem a2_0 (C : Nat) : chkE (fun b => isT (run (@tabS TE 2) 1000 noY 3 (argsE b 0 C) .leaf 0)) [] 0 (ini 0) = true := by kernel_rfl
theorem a2_1 (C : Nat) : chkE (fun b => isT (run (@tabS TE 2) 1000 noY 3 (argsE b 1 C) .leaf 0)) [] 1 (ini 1) = true := by kernel_rfl
theorem a2_2 (C : Nat) : chkE (fun b => isT (run (@tabS TE 2) 1000 noY 3 (argsE b 2 C) .leaf 0)) [] 2 (ini 2) = true := by kernel_rfl
theorem a2_3 (C : Nat) : chkE (fun b => isT (run (@tabS TE 2) 1000 noY 3 (argsE b 3 C) .leaf 0)) [] 3 (ini 3) = true := by kernel_rfl
theorem a2_4 (C : Nat) : chkE (fun b => isT (run (@tabS TE 2) 1000 noY 3 (argsE b 4 C) .leaf 0)) [] 4 (ini 4) = true := by kernel_rfl
theorem a2_5 (L C : Nat) : chkE (fun b => isT (run (@tabS TE 2) 1000 noY 3 (argsE b (L + 5) C) .leaf 0)) [] 4 (ini 4) = true := by kernel_rfl
theorem n3 : isT (run (@tabS TE 3) 1000 noY 3 argsN .leaf 0) = true := by kernel_rfl
theorem a3_0 (C : Nat) : chkE (fun b => isT (run (@tabS TE 3) 1000 noY 3 (argsE b 0 C) .leaf 0)) [] 0 (ini 0) = true := by kernel_rfl
theorem a3_1 (C : Nat) : chkE (fun b => isT (run (@tabS TE 3) 1000 noY 3 (argsE b 1 C) .leaf 0)) [] 1 (ini 1) = true := by kernel_rfl
theorem a3_2 (C : Nat) : chkE (fun b => isT (run (@tabS TE 3) 1000 noY 3 (argsE b 2 C) .leaf 0)) [] 2 (ini 2) = true := by kernel_rfl
theorem a3_3 (C : Nat) : chkE (fun b => isT (run (@tabS TE 3) 1000 noY 3 (argsE b 3 C) .leaf 0)) [] 3 (ini 3) = true := by kernel_rfl
theorem a3_4 (C : Nat) : chkE (fun b => isT (run (@tabS TE 3) 1000 noY 3 (argsE b 4 C) .leaf 0)) [] 4 (ini 4) = true := by kernel_rfl
theorem a3_5 (L C : Nat) : chkE (fun b => isT (run (@tabS TE 3) 1000 noY 3 (argsE b (L + 5) C) .leaf 0)) [] 4 (ini 4) = true := by kernel_rfl
theorem n4 : isT (run (@tabS TE 4) 1000 noY 3 argsN .leaf 0) = true := by kernel_rfl
theorem a4_0 (C : Nat) : chkE (fun b => isT (run (@tabS TE 4) 1000 noY 3 (argsE b 0 C) .leaf 0)) [] 0 (ini 0) = true := by kernel_rfl
theorem a4_1 (C : Nat) : chkE (fun b => isT (run (@tabS TE 4) 1000 noY 3 (argsE b 1 C) .leaf 0)) [] 1 (ini 1) = true := by kernel_rfl
theorem a4_2 (C : Nat) : chkE (fun b => isT (run (@tabS TE 4) 1000 noY 3 (argsE b 2 C) .leaf 0)) [] 2 (ini 2) = true := by kernel_rfl
theorem a4_3 (C : Nat) : chkE (fun b => isT (run (@tabS TE 4) 1000 noY 3 (argsE b 3 C) .leaf 0)) [] 3 (ini 3) = true := by kernel_rfl
theorem a4_4 (C : Nat) : chkE (fun b => isT (run (@tabS TE 4) 1000 noY 3 (argsE b 4 C) .leaf 0)) [] 4 (ini 4) = true := by kernel_rfl
theorem a4_5 (L C : Nat) : chkE (fun b => isT (run (@tabS TE 4) 1000 noY 3 (argsE b (L + 5) C) .leaf 0)) [] 4 (ini 4) = true := by kernel_rfl
theorem n5 : isT (run (@tabS TE 5) 1000 noY 3 argsN .leaf 0) = true := by kernel_rfl
theorem a5_0 (C : Nat) : chkE (fun b => isT (run (@tabS TE 5) 1000 noY 3 (argsE b 0 C) .leaf 0)) [] 0 (ini 0) = true := by kernel_rfl
theorem a5_1 (C : Nat) : chkE (fun b => isT (run (@tabS TE 5) 1000 noY 3 (argsE b 1 C) .leaf 0)) [] 1 (ini 1) = true := by kernel_rfl
theorem a5_2 (C : Nat) : chkE (fun b => isT (run (@tabS TE 5) 1000 noY 3 (argsE b 2 C) .leaf 0)) [] 2 (ini 2) = true := by kernel_rfl
theorem a5_3 (C : Nat) : chkE (fun b => isT (run (@tabS TE 5) 1000 noY 3 (argsE b 3 C) .leaf 0)) [] 3 (ini 3) = true := by kernel_rfl
theorem a5_4 (C : Nat) : chkE (fun b => isT (run (@tabS TE 5) 1000 noY 3 (argsE b 4 C) .leaf 0)) [] 4 (ini 4) = true := by kernel_rfl
theorem a5_5 (L C : Nat) : chkE (fun b => isT (run (@tabS TE 5) 1000 noY 3 (argsE b (L + 5) C) .leaf 0)) [] 4 (ini 4) = true := by kernel_rfl
theorem n6 : isT (run (@tabS TE 6) 1000 noY 3 argsN .leaf 0) = true := by kernel_rfl
theorem a6_0 (C : Nat) : chkE (fun b => isT (run (@tabS TE 6) 1000 noY 3 (argsE b 0 C) .leaf 0)) [] 0 (ini 0) = true := by kernel_rfl
theorem a6_1 (C : Nat) : chkE (fun b => isT (run (@tabS TE 6) 1000 noY 3 (argsE b 1 C) .leaf 0)) [] 1 (ini 1) = true := by kernel_rfl
theorem a6_2 (C : Nat) : chkE (fun b => isT (run (@tabS TE 6) 1000 noY 3 (argsE b 2 C) .leaf 0)) [] 2 (ini 2) = true := by kernel_rfl
theorem a6_3 (C : Nat) : chkE (fun b => isT (run (@tabS TE 6) 1000 noY 3 (argsE b 3 C) .leaf 0)) [] 3 (ini 3) = true := by kernel_rfl
theorem a6_4 (C : Nat) : chkE (fun b => isT (run (@tabS TE 6) 1000 noY 3 (argsE b 4 C) .leaf 0)) [] 4 (ini 4) = true := by kernel_rfl
theorem a6_5 (L C : Nat) : chkE (fun b => isT (run (@tabS TE 6) 1000 noY 3 (argsE b (L + 5) C) .leaf 0)) [] 4 (ini 4) = true := by kernel_rfl
theorem n7 : isT (run (@tabS TE 7) 1000 noY 3 argsN .leaf 0) = true := by kernel_rfl
theorem a7_0 (C : Nat) : chkE (fun b => isT (run (@tabS TE 7) 1000 noY 3 (argsE b 0 C) .leaf 0)) [] 0 (ini 0) = true := by kernel_rfl
theorem a7_1 (C : Nat) : chkE (fun b => isT (run (@tabS TE 7) 1000 noY 3 (argsE b 1 C) .leaf 0)) [] 1 (ini 1) = true := by kernel_rfl
theorem a7_2 (C : Nat) : chkE (fun b => isT (run (@tabS TE 7) 1000 noY 3 (argsE b 2 C) .leaf 0)) [] 2 (ini 2) = true := by kernel_rfl
theorem a7_3 (C : Nat) : chkE (fun b => isT (run (@tabS TE 7) 1000 noY 3 (argsE b 3 C) .leaf 0)) [] 3 (ini 3) = true := by kernel_rfl
theorem a7_4 (C : Nat) : chkE (fun b => isT (run (@tabS TE 7) 1000 noY 3 (argsE b 4 C) .leaf 0)) [] 4 (ini 4) = true := by kernel_rfl
theorem a7_5 (L C : Nat) : chkE (fun b => isT (run (@tabS TE 7) 1000 noY 3 (argsE b (L + 5) C) .leaf 0)) [] 4 (ini 4) = true := by kernel_rfl
end Go.Proofs.YtpalciklgbabeaaGreatDoor.stepEffects
