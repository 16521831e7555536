import Derived.Test.YtdgfibghpfegoaaGreatDoorH1
/- What the evaluator answers at each case of VerifyEnds. Conditions: none of its own. -/
namespace Go.Proofs.YtdgfibghpfegoaaGreatDoor.verifyEnds
open Go Ev
/-- what is told of remainders -/
noncomputable def told (j0 : Int) : Nat → Int → Option Int := fun b m => match b with
  | 0 => if m = 50 then some j0 else none
  | _ => none
/-- a bool -/
noncomputable def bo (b : Bool) : AV := .num 8 (match b with | false => .ofNat 0 | true => .ofNat 1)
theorem ans_0f : isT (run (tab9 (told 0)) 1000 noY 6 (.cons (.ref 12 0 0 0 0 0) (.cons (.num 8 (.ofNat 0)) .nil)) .leaf 0) = true := by kernel_rfl
theorem ans_0t : isT (run (tab9 (told 0)) 1000 noY 6 (.cons (.ref 12 0 0 0 0 0) (.cons (.num 8 (.ofNat 1)) .nil)) .leaf 0) = true := by kernel_rfl
theorem ans_1f : isT (run (tab9 (told 1)) 1000 noY 6 (.cons (.ref 12 0 0 0 0 0) (.cons (.num 8 (.ofNat 0)) .nil)) .leaf 0) = true := by kernel_rfl
theorem ans_1t : isT (run (tab9 (told 1)) 1000 noY 6 (.cons (.ref 12 0 0 0 0 0) (.cons (.num 8 (.ofNat 1)) .nil)) .leaf 0) = true := by kernel_rfl
theorem ans_2f : isT (run (tab9 (told 2)) 1000 noY 6 (.cons (.ref 12 0 0 0 0 0) (.cons (.num 8 (.ofNat 0)) .nil)) .leaf 0) = true := by kernel_rfl
theorem ans_2t : isT (run (tab9 (told 2)) 1000 noY 6 (.cons (.ref 12 0 0 0 0 0) (.cons (.num 8 (.ofNat 1)) .nil)) .leaf 0) = true := by kernel_rfl
theorem ans_3f : isT (run (tab9 (told 3)) 1000 noY 6 (.cons (.ref 12 0 0 0 0 0) (.cons (.num 8 (.ofNat 0)) .nil)) .leaf 0) = true := by kernel_rfl
theorem ans_3t : isT (run (tab9 (told 3)) 1000 noY 6 (.cons (.ref 12 0 0 0 0 0) (.cons (.num 8 (.ofNat 1)) .nil)) .leaf 0) = true := by kernel_rfl
theorem ans_4f : isT (run (tab9 (told 4)) 1000 noY 6 (.cons (.ref 12 0 0 0 0 0) (.cons (.num 8 (.ofNat 0)) .nil)) .leaf 0) = true := by kernel_rfl
theorem ans_4t : isT (run (tab9 (told 4)) 1000 noY 6 (.cons (.ref 12 0 0 0 0 0) (.cons (.num 8 (.ofNat 1)) .nil)) .leaf 0) = true := by kernel_rfl
theorem ans_5f : isT (run (tab9 (told 5)) 1000 noY 6 (.cons (.ref 12 0 0 0 0 0) (.cons (.num 8 (.ofNat 0)) .nil)) .leaf 0) = true := by kernel_rfl
theorem ans_5t : isT (run (tab9 (told 5)) 1000 noY 6 (.cons (.ref 12 0 0 0 0 0) (.cons (.num 8 (.ofNat 1)) .nil)) .leaf 0) = true := by kernel_rfl
end Go.Proofs.YtdgfibghpfegoaaGreatDoor.verifyEnds
