import Derived.Test.YtjhamfilfgbhlaaGreatDoorPK0
import Derived.Test.YtjhamfilfgbhlaaGreatDoorPR0
/- What is told to the evaluator at SlowPicks. Conditions: none of its own. -/
namespace Go.Proofs.YtjhamfilfgbhlaaGreatDoor.slowPicks
open Go Ev
/-- what is told of remainders -/
noncomputable def told (j0 : Int) : Nat → Int → Option Int := fun b m => match b with
  | 0 => if m = 3 then some j0 else none
  | _ => none
/-- a bool -/
noncomputable def bo (b : Bool) : AV := .num 8 (match b with | false => .ofNat 0 | true => .ofNat 1)
end Go.Proofs.YtjhamfilfgbhlaaGreatDoor.slowPicks
