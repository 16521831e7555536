import Derived.Test.YtjhamfilfgbhlaaGreatDoorPAd
/- What the evaluator answers at cases of SlowPicks. Conditions: none of its own. -/
namespace Go.Proofs.YtjhamfilfgbhlaaGreatDoor.slowPicks
open Go Ev
theorem ans_0_f : isT (run (@tabR TT (told 0)) 1000 noY 4 (.cons (.ref 12 0 0 0 0 0) (.cons (.num 8 (.ofNat 0)) (.cons (tok 0) .nil))) .leaf 0) = true := by kernel_rfl
theorem ans_0_t : isT (run (@tabR TT (told 0)) 1000 noY 4 (.cons (.ref 12 0 0 0 0 0) (.cons (.num 8 (.ofNat 1)) (.cons (tok 0) .nil))) .leaf 0) = true := by kernel_rfl
end Go.Proofs.YtjhamfilfgbhlaaGreatDoor.slowPicks
