import Derived.Test.YtjhamfilfgbhlaaGreatDoorAK0
import Derived.Test.YtjhamfilfgbhlaaGreatDoorAR0
/- What is told to the evaluator at SlowCasts. Conditions: none of its own. -/
namespace Go.Proofs.YtjhamfilfgbhlaaGreatDoor.slowCasts
open Go Ev
/-- what is told of remainders -/
noncomputable def told (j0 j1 : Int) : Nat → Int → Option Int := fun b m => match b with
  | 0 => if m = 4 then some j0 else none
  | 1 => if m = 7 then some j1 else none
  | _ => none
end Go.Proofs.YtjhamfilfgbhlaaGreatDoor.slowCasts
