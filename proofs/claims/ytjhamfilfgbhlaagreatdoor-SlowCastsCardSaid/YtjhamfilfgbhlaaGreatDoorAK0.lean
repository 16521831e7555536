import Derived.Test.YtjhamfilfgbhlaaGreatDoorAT0
/- What known() answers is told. Conditions: none of its own. -/
namespace Go.Proofs.YtjhamfilfgbhlaaGreatDoor
open Go Ev
theorem known_ok [Ev.Told] : isT (run (tab fun _ _ => none) 1000 noY 8 .nil .leaf 0) = true := by kernel_rfl
/-- the table, in which what known() answers is told -/
noncomputable def tabR [Ev.Told] (res : Nat → Int → Option Int) : Bt FnD := (tab res).set (clo0 s8) 8
theorem tabR_ok [Ev.Told] [TokV] [ToldOK] {tk : Ev.Tok} {res : Nat → Int → Option Int} (h13 : ∀ b m j, res b m = some j → ∃ x, tk b = some (.i64, x) ∧ ∀ (y : Yh) (ih : Ih) (t : H) (n : Nat), s13 y ih (.cons (.num 3 x) (.cons (.num 3 m) .nil)) t n = .ok (.num 3 j) t n) : TabOK Tryz.prog tk (tabR res) :=
  tab_set (tab_ok h13) (ent_clo0 e8 (tab_ok (res := fun _ _ => none) (fun _ _ _ h => by cases h)) known_ok)
end Go.Proofs.YtjhamfilfgbhlaaGreatDoor
