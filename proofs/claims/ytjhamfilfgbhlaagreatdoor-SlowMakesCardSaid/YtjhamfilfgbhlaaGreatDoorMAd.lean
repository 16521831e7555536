import Derived.Test.YtjhamfilfgbhlaaGreatDoorMK0
import Derived.Test.YtjhamfilfgbhlaaGreatDoorMR0
/- What is told to the evaluator at SlowMakes. Conditions: none of its own. -/
namespace Go.Proofs.YtjhamfilfgbhlaaGreatDoor.slowMakes
open Go Ev
end Go.Proofs.YtjhamfilfgbhlaaGreatDoor.slowMakes
