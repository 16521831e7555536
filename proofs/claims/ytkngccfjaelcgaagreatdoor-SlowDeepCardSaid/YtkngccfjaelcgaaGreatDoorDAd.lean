import Derived.Test.YtkngccfjaelcgaaGreatDoorDK0
import Derived.Test.YtkngccfjaelcgaaGreatDoorDR0
/- What is told to the evaluator at SlowDeep. Conditions: none of its own. -/
namespace Go.Proofs.YtkngccfjaelcgaaGreatDoor.slowDeep
open Go Ev
/-- how often is known, how deep is not -/
def res1 (n : Nat) : Nat → Int → Option AV := fun b m => match b with
  | 0 => if m = 100 then some (ii3 n) else none
  | 1 => if m = 60 then some (tok 0) else none
  | _ => none
/-- how deep is known, how often is not -/
def res2 (d : Nat) : Nat → Int → Option AV := fun b m => match b with
  | 0 => if m = 100 then some (tok 0) else none
  | 1 => if m = 60 then some (ii3 (Nat.pred d)) else none
  | _ => none
def args (b : Bool) : AV := .cons (.ref 12 0 0 0 0 0) (.cons (.ref 12 1 0 0 0 0) (.cons (.num 8 (match b with | false => .ofNat 0 | true => .ofNat 1)) .nil))
end Go.Proofs.YtkngccfjaelcgaaGreatDoor.slowDeep
