import Derived.Test.YtjhamfilfgbhlaaGreatDoorMT0
/- What known() answers is told. Conditions: none of its own. -/
namespace Go.Proofs.YtjhamfilfgbhlaaGreatDoor
open Go Ev
theorem known_ok [Ev.Told] : isT (run (tab fun _ _ => none) 1000 noY 8 .nil .leaf 0) = true := by kernel_rfl
/-- the table, in which what known() answers is told -/
noncomputable def tabR [Ev.Told] : Bt FnD := (tab fun _ _ => none).set (clo0 s8) 8
theorem tabR_ok [Ev.Told] [TokV] [ToldOK] {tk : Ev.Tok} : TabOK Tryz.prog tk tabR := tab_set tab_ok (ent_clo0 e8 tab_ok known_ok)
end Go.Proofs.YtjhamfilfgbhlaaGreatDoor
