import Derived.Test.YtdgfibghpfegoaaGreatDoorH0
/- What the evaluator answers at each case of VerifyCaught. Conditions: none of its own. -/
namespace Go.Proofs.YtdgfibghpfegoaaGreatDoor.verifyCaught
open Go Ev
/-- what is told of remainders -/
noncomputable def told (j0 j1 j2 : Int) : Nat → Int → Option Int := fun b m => match b with
  | 0 => if m = 2 then some j0 else none
  | 1 => if m = 2 then some j1 else none
  | 2 => if m = 3 then some j2 else none
  | _ => none
/-- a bool -/
noncomputable def bo (b : Bool) : AV := .num 8 (match b with | false => .ofNat 0 | true => .ofNat 1)
theorem ans_0_0_0 : isT (run (tab (told 0 0 0)) 1000 noY 7 (.cons (.ref 12 0 0 0 0 0) (.cons (.ref 12 1 0 0 0 0) (.cons (.ref 12 2 0 0 0 0) .nil))) .leaf 0) = true := by kernel_rfl
theorem ans_0_0_1 : isT (run (tab (told 0 0 1)) 1000 noY 7 (.cons (.ref 12 0 0 0 0 0) (.cons (.ref 12 1 0 0 0 0) (.cons (.ref 12 2 0 0 0 0) .nil))) .leaf 0) = true := by kernel_rfl
theorem ans_0_0_2 : isT (run (tab (told 0 0 2)) 1000 noY 7 (.cons (.ref 12 0 0 0 0 0) (.cons (.ref 12 1 0 0 0 0) (.cons (.ref 12 2 0 0 0 0) .nil))) .leaf 0) = true := by kernel_rfl
theorem ans_0_1_0 : isT (run (tab (told 0 1 0)) 1000 noY 7 (.cons (.ref 12 0 0 0 0 0) (.cons (.ref 12 1 0 0 0 0) (.cons (.ref 12 2 0 0 0 0) .nil))) .leaf 0) = true := by kernel_rfl
theorem ans_0_1_1 : isT (run (tab (told 0 1 1)) 1000 noY 7 (.cons (.ref 12 0 0 0 0 0) (.cons (.ref 12 1 0 0 0 0) (.cons (.ref 12 2 0 0 0 0) .nil))) .leaf 0) = true := by kernel_rfl
theorem ans_0_1_2 : isT (run (tab (told 0 1 2)) 1000 noY 7 (.cons (.ref 12 0 0 0 0 0) (.cons (.ref 12 1 0 0 0 0) (.cons (.ref 12 2 0 0 0 0) .nil))) .leaf 0) = true := by kernel_rfl
theorem ans_1_0_0 : isT (run (tab (told 1 0 0)) 1000 noY 7 (.cons (.ref 12 0 0 0 0 0) (.cons (.ref 12 1 0 0 0 0) (.cons (.ref 12 2 0 0 0 0) .nil))) .leaf 0) = true := by kernel_rfl
theorem ans_1_0_1 : isT (run (tab (told 1 0 1)) 1000 noY 7 (.cons (.ref 12 0 0 0 0 0) (.cons (.ref 12 1 0 0 0 0) (.cons (.ref 12 2 0 0 0 0) .nil))) .leaf 0) = true := by kernel_rfl
theorem ans_1_0_2 : isT (run (tab (told 1 0 2)) 1000 noY 7 (.cons (.ref 12 0 0 0 0 0) (.cons (.ref 12 1 0 0 0 0) (.cons (.ref 12 2 0 0 0 0) .nil))) .leaf 0) = true := by kernel_rfl
theorem ans_1_1_0 : isT (run (tab (told 1 1 0)) 1000 noY 7 (.cons (.ref 12 0 0 0 0 0) (.cons (.ref 12 1 0 0 0 0) (.cons (.ref 12 2 0 0 0 0) .nil))) .leaf 0) = true := by kernel_rfl
theorem ans_1_1_1 : isT (run (tab (told 1 1 1)) 1000 noY 7 (.cons (.ref 12 0 0 0 0 0) (.cons (.ref 12 1 0 0 0 0) (.cons (.ref 12 2 0 0 0 0) .nil))) .leaf 0) = true := by kernel_rfl
theorem ans_1_1_2 : isT (run (tab (told 1 1 2)) 1000 noY 7 (.cons (.ref 12 0 0 0 0 0) (.cons (.ref 12 1 0 0 0 0) (.cons (.ref 12 2 0 0 0 0) .nil))) .leaf 0) = true := by kernel_rfl
end Go.Proofs.YtdgfibghpfegoaaGreatDoor.verifyCaught
