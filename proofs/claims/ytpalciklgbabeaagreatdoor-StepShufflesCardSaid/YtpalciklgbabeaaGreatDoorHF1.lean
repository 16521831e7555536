import Derived.Test.YtpalciklgbabeaaGreatDoorCards
import Derived.Test.YtpalciklgbabeaaGreatDoorTie
import Derived.JoinedOf
import Derived.KernelRfl
/- Closed facts on the row of StepShuffles. -/
namespace Go.Proofs.YtpalciklgbabeaaGreatDoor.stepShuffles
open Go
set_option maxRecDepth 100000
set_option linter.unusedVariables false
set_option linter.unusedSimpArgs false
theorem named : Tryz.pinned.checked.prog.funcNamed Rows.stepShufflesRow.func = some 4 := by kernel_rfl
theorem inst : Tryz.f4.isInstance Tryz.pinned.checked.prog Rows.stepShufflesRow.origin Rows.stepShufflesRow.targs := of_decide_eq_true (by kernel_rfl)
theorem wrap : Tryz.f4.isWrapper Tryz.pinned.checked.prog Rows.stepShufflesRow.wrapper Rows.stepShufflesRow.mainSum := by unfold Func.isWrapper; first | (rw [if_pos (by decide +kernel)]; kernel_rfl) | (rw [if_neg (by decide +kernel)]; exact ⟨rfl, rfl⟩)
theorem fact1 : Rows.stepShufflesRow.wfByText (OpenSpec.ofChange Rows.stepShufflesSpec) = true := by kernel_rfl
theorem fact2 : Tryz.pinned.checked.prog.mainIs = some (true, "7f3fdfcadee9000e31ea652b6bb3a76b25de209ffe07a31f02ab8af684cf41fe".toList) := by kernel_rfl
theorem fact3 : true = Tryz.prog.looks [] := by kernel_rfl
theorem goes_no {P : Program} (h : P.funcs.toList.any Func.goes = false) (f : FuncId) : P.goes f = false := by
  have h1 : P.funcs.any Func.goes = false := by rw [← Array.any_toList]; exact h
  unfold Program.goes
  rw [h1, Bool.and_false, Bool.or_false, List.any_eq_false]
  intro g _
  cases hg : P.funcs[g]? with
  | none => simp
  | some fn =>
    have hm : fn ∈ P.funcs.toList := by simpa using Array.mem_of_getElem? hg
    have := List.any_eq_false.1 h fn hm
    simpa using this
theorem goesAt_no {P : Program} (h : P.funcs.toList.any Func.goes = false) {s : Start} (hs : s = .entering) (func : String) : false = P.goesAt s func := by
  subst hs
  unfold Program.goesAt Program.goesFrom
  cases P.funcNamed func with
  | none => rfl
  | some f => simp [goes_no h f]
theorem nogo : Tryz.pinned.checked.prog.funcs.toList.any Func.goes = false := by kernel_rfl
theorem fact4 : false = Rows.stepShufflesRow.goesBy Tryz.pinned.checked.prog := goesAt_no nogo rfl _
theorem fact5 : ([22, 3].all fun u => !Tryz.prog.wantsStandIn u) = true := by kernel_rfl
end Go.Proofs.YtpalciklgbabeaaGreatDoor.stepShuffles
