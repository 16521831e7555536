import Derived.Test.YtdgfibghpfegoaaGreatDoorCards
import Derived.Test.YtdgfibghpfegoaaGreatDoorTie
import Derived.JoinedOf
import Derived.KernelRfl
/- Closed facts on the row and the card of VerifyCaught. -/
namespace Go.Proofs.YtdgfibghpfegoaaGreatDoor.verifyCaught
open Go
set_option maxRecDepth 100000
set_option linter.unusedVariables false
set_option linter.unusedSimpArgs false
set_option maxHeartbeats 8000000 in
theorem joined : joinedFacts Tryz.pinned.checked.prog 7 Tryz.f7 Rows.verifyCaughtSpec Rows.verifyCaughtRow = true := by
  unfold joinedFacts
  simp only [Bool.and_eq_true]
  repeat' apply And.intro
  all_goals (as_aux_lemma => kernel_rfl)
theorem named : Tryz.pinned.checked.prog.funcNamed Rows.verifyCaughtRow.func = some 7 := by kernel_rfl
theorem inst : Tryz.f7.isInstance Tryz.pinned.checked.prog Rows.verifyCaughtRow.origin Rows.verifyCaughtRow.targs := of_decide_eq_true (by kernel_rfl)
theorem wrap : Tryz.f7.isWrapper Tryz.pinned.checked.prog Rows.verifyCaughtRow.wrapper Rows.verifyCaughtRow.mainSum := by unfold Func.isWrapper; first | (rw [if_pos (by decide +kernel)]; kernel_rfl) | (rw [if_neg (by decide +kernel)]; exact ⟨rfl, rfl⟩)
theorem fact1 : Rows.verifyCaughtRow.wfByText (OpenSpec.ofChange Rows.verifyCaughtSpec) = true := by kernel_rfl
theorem fact2 : Tryz.pinned.checked.prog.mainIs = some (true, "33eaf2ea52a2efe6830f2e57dd6bac6c6fce5c0f3f2a6fdc3f96f8d83a466aeb".toList) := by kernel_rfl
theorem fact3 : true = Tryz.prog.looks [] := by kernel_rfl
theorem fact4 : false = Rows.verifyCaughtRow.goesBy Tryz.pinned.checked.prog := by kernel_rfl
theorem fact5 : ([3].all fun u => !Tryz.prog.wantsStandIn u) = true := by kernel_rfl
end Go.Proofs.YtdgfibghpfegoaaGreatDoor.verifyCaught
