import Derived.Test.YtpalciklgbabeaaGreatDoorHT0
/- What known() answers is told. Conditions: none of its own. -/
namespace Go.Proofs.YtpalciklgbabeaaGreatDoor
open Go Ev
theorem known_ok [Ev.Told] : isT (run (tab fun _ _ => none) 1000 noY 5 .nil .leaf 0) = true := by kernel_rfl
noncomputable def tab1 [Ev.Told] : Bt FnD := (tab fun _ _ => none).set (clo0 s5) 5
theorem tab1_ok [Ev.Told] [TokV] [ToldOK] {tk : Ev.Tok} : TabOK Tryz.prog tk tab1 := tab_set tab_ok (ent_clo0 e5 tab_ok known_ok)
end Go.Proofs.YtpalciklgbabeaaGreatDoor
