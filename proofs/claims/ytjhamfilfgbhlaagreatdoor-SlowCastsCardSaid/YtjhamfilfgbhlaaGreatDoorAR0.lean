import Derived.Test.YtjhamfilfgbhlaaGreatDoorV2
/- What is told of operations on numbers of which nothing is known, and that it is right. Conditions: none of its own. -/
namespace Go.Proofs.YtjhamfilfgbhlaaGreatDoor
open Go Ev
set_option linter.unusedVariables false
set_option linter.unusedSimpArgs false
noncomputable abbrev T0 : Ev.Told := ⟨fun _ _ _ => none⟩
abbrev V0 : TokV := ⟨fun _ => none, fun _ => none⟩
theorem O0 : @ToldOK V0 T0 := @ToldOK.mk V0 T0 fun _ _ _ _ h => by cases h
end Go.Proofs.YtjhamfilfgbhlaaGreatDoor
