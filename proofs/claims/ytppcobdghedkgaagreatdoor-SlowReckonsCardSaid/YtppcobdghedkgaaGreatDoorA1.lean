import Derived.Test.YtppcobdghedkgaaGreatDoorA0
/- What the evaluator answers at each case of SlowReckons. Conditions: none of its own. -/
namespace Go.Proofs.YtppcobdghedkgaaGreatDoor.slowReckons
open Go Ev
theorem ans_4_30 : isT (run (@tabR (TT 30) (told 4)) 1000 noY 3 (.cons (.ref 12 0 0 0 0 0) (.cons (tok 0) (.cons (tok 1) .nil))) .leaf 0) = true := by kernel_rfl
theorem ans_4_31 : isT (run (@tabR (TT 31) (told 4)) 1000 noY 3 (.cons (.ref 12 0 0 0 0 0) (.cons (tok 0) (.cons (tok 1) .nil))) .leaf 0) = true := by kernel_rfl
theorem ans_4_42 : isT (run (@tabR (TT 42) (told 4)) 1000 noY 3 (.cons (.ref 12 0 0 0 0 0) (.cons (tok 0) (.cons (tok 1) .nil))) .leaf 0) = true := by kernel_rfl
theorem ans_5_100 : isT (run (@tabR (TT 100) (told 5)) 1000 noY 3 (.cons (.ref 12 0 0 0 0 0) (.cons (tok 0) (.cons (tok 1) .nil))) .leaf 0) = true := by kernel_rfl
theorem ans_5_101 : isT (run (@tabR (TT 101) (told 5)) 1000 noY 3 (.cons (.ref 12 0 0 0 0 0) (.cons (tok 0) (.cons (tok 1) .nil))) .leaf 0) = true := by kernel_rfl
theorem ans_6_6 : isT (run (@tabR (TT 6) (told 6)) 1000 noY 3 (.cons (.ref 12 0 0 0 0 0) (.cons (tok 0) (.cons (tok 1) .nil))) .leaf 0) = true := by kernel_rfl
end Go.Proofs.YtppcobdghedkgaaGreatDoor.slowReckons
