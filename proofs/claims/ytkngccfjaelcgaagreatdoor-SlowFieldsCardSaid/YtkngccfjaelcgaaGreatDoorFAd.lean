import Derived.Test.YtkngccfjaelcgaaGreatDoorFK0
import Derived.Test.YtkngccfjaelcgaaGreatDoorFR0
/- What is told to the evaluator at SlowFields. Conditions: none of its own. -/
namespace Go.Proofs.YtkngccfjaelcgaaGreatDoor.slowFields
open Go Ev
end Go.Proofs.YtkngccfjaelcgaaGreatDoor.slowFields
