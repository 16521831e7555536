import Derived.Test.YtdgfibghpfegoaaGreatDoorH0
import Derived.Test.YtdgfibghpfegoaaGreatDoorV3
import Derived.KernelRfl
/- What known() answers is told once: true; what it makes is forgotten. Conditions: none of its own. -/
namespace Go.Proofs.YtdgfibghpfegoaaGreatDoor
open Go Ev
theorem known_ok : isTn 984 (run (tab fun _ _ => none) 1000 noY 9 .nil .leaf 0) = true := by kernel_rfl
/-- the table, in which what known() answers is told -/
noncomputable def tab9 (res : Nat → Int → Option Int) : T FnD := (tab res).set (clo s9 984) 9
theorem tab9_ok {tk : Ev.Tok} {res : Nat → Int → Option Int} (h10 : ∀ b m j, res b m = some j → ∃ x, tk b = some (.i64, x) ∧ ∀ (y : Yh) (ih : Ih) (t : H) (n : Nat), s10 y ih (.cons (.num 3 x) (.cons (.num 3 m) .nil)) t n = .ok (.num 3 j) t n) : TabOK Tryz.prog tk (tab9 res) :=
  tab_set (tab_ok h10) (ent_clo e9 (tab_ok (res := fun _ _ => none) (fun _ _ _ h => by cases h)) known_ok)
end Go.Proofs.YtdgfibghpfegoaaGreatDoor
