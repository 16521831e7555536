import Derived.Test.YtppcobdghedkgaaGreatDoorA0
/- What the evaluator answers at each case of SlowReckons. Conditions: none of its own. -/
namespace Go.Proofs.YtppcobdghedkgaaGreatDoor.slowReckons
open Go Ev
theorem ans_7_7 : isT (run (@tabR (TT 7) (told 7)) 1000 noY 3 (.cons (.ref 12 0 0 0 0 0) (.cons (tok 0) (.cons (tok 1) .nil))) .leaf 0) = true := by kernel_rfl
theorem ans_8_8 : isT (run (@tabR (TT 8) (told 8)) 1000 noY 3 (.cons (.ref 12 0 0 0 0 0) (.cons (tok 0) (.cons (tok 1) .nil))) .leaf 0) = true := by kernel_rfl
theorem ans_9_9 : isT (run (@tabR (TT 9) (told 9)) 1000 noY 3 (.cons (.ref 12 0 0 0 0 0) (.cons (tok 0) (.cons (tok 1) .nil))) .leaf 0) = true := by kernel_rfl
theorem ans_10_100 : isT (run (@tabR (TT 100) (told 10)) 1000 noY 3 (.cons (.ref 12 0 0 0 0 0) (.cons (tok 0) (.cons (tok 1) .nil))) .leaf 0) = true := by kernel_rfl
theorem ans_10_101 : isT (run (@tabR (TT 101) (told 10)) 1000 noY 3 (.cons (.ref 12 0 0 0 0 0) (.cons (tok 0) (.cons (tok 1) .nil))) .leaf 0) = true := by kernel_rfl
end Go.Proofs.YtppcobdghedkgaaGreatDoor.slowReckons
