import Derived.Test.YtjhamfilfgbhlaaGreatDoorCK0
import Derived.Test.YtjhamfilfgbhlaaGreatDoorCR0
/- What is told to the evaluator at SlowCatches. Conditions: none of its own. -/
namespace Go.Proofs.YtjhamfilfgbhlaaGreatDoor.slowCatches
open Go Ev
/-- what is told of remainders -/
noncomputable def told (j0 j1 j2 : Int) : Nat → Int → Option Int := fun b m => match b with
  | 0 => if m = 4 then some j0 else none
  | 1 => if m = 4 then some j1 else none
  | 2 => if m = 3 then some j2 else none
  | _ => none
/-- a bool -/
noncomputable def bo (b : Bool) : AV := .num 8 (match b with | false => .ofNat 0 | true => .ofNat 1)
end Go.Proofs.YtjhamfilfgbhlaaGreatDoor.slowCatches
