import Derived.Test.YtdgfibghpfegoaaGreatDoorH0
/- What the evaluator answers at each case of VerifyBegins. Conditions: none of its own. -/
namespace Go.Proofs.YtdgfibghpfegoaaGreatDoor.verifyBegins
open Go Ev
/-- what is told of remainders -/
noncomputable def told (j0 : Int) : Nat → Int → Option Int := fun b m => match b with
  | 0 => if m = 11 then some j0 else none
  | _ => none
/-- a bool -/
noncomputable def bo (b : Bool) : AV := .num 8 (match b with | false => .ofNat 0 | true => .ofNat 1)
theorem ans_0 : isT (run (tab (told 0)) 1000 noY 4 (.cons (.ref 12 0 0 0 0 0) .nil) .leaf 0) = true := by kernel_rfl
theorem ans_1 : isT (run (tab (told 1)) 1000 noY 4 (.cons (.ref 12 0 0 0 0 0) .nil) .leaf 0) = true := by kernel_rfl
theorem ans_2 : isT (run (tab (told 2)) 1000 noY 4 (.cons (.ref 12 0 0 0 0 0) .nil) .leaf 0) = true := by kernel_rfl
theorem ans_3 : isT (run (tab (told 3)) 1000 noY 4 (.cons (.ref 12 0 0 0 0 0) .nil) .leaf 0) = true := by kernel_rfl
theorem ans_4 : isT (run (tab (told 4)) 1000 noY 4 (.cons (.ref 12 0 0 0 0 0) .nil) .leaf 0) = true := by kernel_rfl
theorem ans_5 : isT (run (tab (told 5)) 1000 noY 4 (.cons (.ref 12 0 0 0 0 0) .nil) .leaf 0) = true := by kernel_rfl
theorem ans_6 : isT (run (tab (told 6)) 1000 noY 4 (.cons (.ref 12 0 0 0 0 0) .nil) .leaf 0) = true := by kernel_rfl
theorem ans_7 : isT (run (tab (told 7)) 1000 noY 4 (.cons (.ref 12 0 0 0 0 0) .nil) .leaf 0) = true := by kernel_rfl
theorem ans_8 : isT (run (tab (told 8)) 1000 noY 4 (.cons (.ref 12 0 0 0 0 0) .nil) .leaf 0) = true := by kernel_rfl
theorem ans_9 : isT (run (tab (told 9)) 1000 noY 4 (.cons (.ref 12 0 0 0 0 0) .nil) .leaf 0) = true := by kernel_rfl
theorem ans_10 : isT (run (tab (told 10)) 1000 noY 4 (.cons (.ref 12 0 0 0 0 0) .nil) .leaf 0) = true := by kernel_rfl
end Go.Proofs.YtdgfibghpfegoaaGreatDoor.verifyBegins
