import Derived.Test.YtkngccfjaelcgaaGreatDoorDT0
/- What known() answers is told. Conditions: none of its own. -/
namespace Go.Proofs.YtkngccfjaelcgaaGreatDoor
open Go Ev
theorem known_ok [Ev.Told] : isT (run (tab fun _ _ => none) 1000 noY 5 .nil .leaf 0) = true := by kernel_rfl
/-- the table, in which what known() and the remainders answer is told -/
noncomputable def tabR [Ev.Told] (res : Nat → Int → Option AV) : Bt FnD := ((tab fun _ _ => none).set (orcA s19 res) 19).set (clo0 s5) 5
theorem tabR_ok [Ev.Told] [TokV] [ToldOK] {tk : Ev.Tok} {res : Nat → Int → Option AV} (h : ∀ b m v, res b m = some v → ∃ x j, tk b = some (.i64, x) ∧ (∀ ι : Rn, toV ι v = some (.int .i64 j)) ∧ ∀ (y : Yh) (ih : Ih) (t : H) (n : Nat), s19 y ih (.cons (.num 3 x) (.cons (.num 3 m) .nil)) t n = .ok (.num 3 j) t n) : TabOK Tryz.prog tk (tabR res) :=
  tab_set (tab_set tab_ok (ent_orcA e19 h)) (ent_clo0 e5 tab_ok known_ok)
end Go.Proofs.YtkngccfjaelcgaaGreatDoor
