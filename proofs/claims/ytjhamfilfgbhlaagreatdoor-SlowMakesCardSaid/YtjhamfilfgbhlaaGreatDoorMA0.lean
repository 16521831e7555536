import Derived.Test.YtjhamfilfgbhlaaGreatDoorMAd
/- What the evaluator answers at cases of SlowMakes. Conditions: none of its own. -/
namespace Go.Proofs.YtjhamfilfgbhlaaGreatDoor.slowMakes
open Go Ev
theorem ans : isT (run (@tabR TT) 1000 noY 6 (.cons (tok 0) .nil) .leaf 0) = true := by kernel_rfl
end Go.Proofs.YtjhamfilfgbhlaaGreatDoor.slowMakes
