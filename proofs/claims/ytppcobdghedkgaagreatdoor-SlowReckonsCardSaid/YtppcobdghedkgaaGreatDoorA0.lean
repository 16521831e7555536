import Derived.Test.YtppcobdghedkgaaGreatDoorH0
import Derived.Test.YtppcobdghedkgaaGreatDoorR1
/- What the evaluator answers at each case of SlowReckons. Conditions: none of its own. -/
namespace Go.Proofs.YtppcobdghedkgaaGreatDoor.slowReckons
open Go Ev
/-- what is told of the remainder -/
noncomputable def told (j0 : Int) : Nat → Int → Option Int := fun b m => match b with
  | 0 => if m = 11 then some j0 else none
  | _ => none
theorem ans_0_0 : isT (run (@tabR (TT 0) (told 0)) 1000 noY 3 (.cons (.ref 12 0 0 0 0 0) (.cons (tok 0) (.cons (tok 1) .nil))) .leaf 0) = true := by kernel_rfl
theorem ans_1_1 : isT (run (@tabR (TT 1) (told 1)) 1000 noY 3 (.cons (.ref 12 0 0 0 0 0) (.cons (tok 0) (.cons (tok 1) .nil))) .leaf 0) = true := by kernel_rfl
theorem ans_2_2 : isT (run (@tabR (TT 2) (told 2)) 1000 noY 3 (.cons (.ref 12 0 0 0 0 0) (.cons (tok 0) (.cons (tok 1) .nil))) .leaf 0) = true := by kernel_rfl
theorem ans_3_30 : isT (run (@tabR (TT 30) (told 3)) 1000 noY 3 (.cons (.ref 12 0 0 0 0 0) (.cons (tok 0) (.cons (tok 1) .nil))) .leaf 0) = true := by kernel_rfl
theorem ans_3_31 : isT (run (@tabR (TT 31) (told 3)) 1000 noY 3 (.cons (.ref 12 0 0 0 0 0) (.cons (tok 0) (.cons (tok 1) .nil))) .leaf 0) = true := by kernel_rfl
theorem ans_3_32 : isT (run (@tabR (TT 32) (told 3)) 1000 noY 3 (.cons (.ref 12 0 0 0 0 0) (.cons (tok 0) (.cons (tok 1) .nil))) .leaf 0) = true := by kernel_rfl
end Go.Proofs.YtppcobdghedkgaaGreatDoor.slowReckons
