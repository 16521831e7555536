import Derived.Test.YtkngccfjaelcgaaGreatDoorFAd
/- What the evaluator answers at cases of SlowFields. Conditions: none of its own. -/
namespace Go.Proofs.YtkngccfjaelcgaaGreatDoor.slowFields
open Go Ev
theorem ans : isT (run (@tabR TT) 1000 noY 3 (.cons (tok 0) (.cons (tok 1) (.cons (tok 2) .nil))) .leaf 0) = true := by kernel_rfl
end Go.Proofs.YtkngccfjaelcgaaGreatDoor.slowFields
