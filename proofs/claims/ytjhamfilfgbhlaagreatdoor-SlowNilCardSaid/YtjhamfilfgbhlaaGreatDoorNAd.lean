import Derived.Test.YtjhamfilfgbhlaaGreatDoorNK0
import Derived.Test.YtjhamfilfgbhlaaGreatDoorNR0
/- What is told to the evaluator at SlowNil. Conditions: none of its own. -/
namespace Go.Proofs.YtjhamfilfgbhlaaGreatDoor.slowNil
open Go Ev
/-- what is told of remainders -/
noncomputable def told (j0 : Int) : Nat → Int → Option Int := fun b m => match b with
  | 0 => if m = 12 then some j0 else none
  | _ => none
end Go.Proofs.YtjhamfilfgbhlaaGreatDoor.slowNil
