import Derived.Test.YtdgfibghpfegoaaGreatDoorCards
import Derived.Test.YtdgfibghpfegoaaGreatDoorTie
import Derived.JoinedOf
import Derived.KernelRfl
/- Closed facts on the row and the card of VerifyEnds. -/
namespace Go.Proofs.YtdgfibghpfegoaaGreatDoor.verifyEnds
open Go
set_option maxRecDepth 100000
set_option linter.unusedVariables false
set_option linter.unusedSimpArgs false
set_option maxHeartbeats 8000000 in
theorem joined : joinedFacts Tryz.pinned.checked.prog 6 Tryz.f6 Rows.verifyEndsSpec Rows.verifyEndsRow = true := by
  unfold joinedFacts
  simp only [Bool.and_eq_true]
  repeat' apply And.intro
  all_goals (as_aux_lemma => kernel_rfl)
theorem named : Tryz.pinned.checked.prog.funcNamed Rows.verifyEndsRow.func = some 6 := by kernel_rfl
theorem inst : Tryz.f6.isInstance Tryz.pinned.checked.prog Rows.verifyEndsRow.origin Rows.verifyEndsRow.targs := of_decide_eq_true (by kernel_rfl)
theorem wrap : Tryz.f6.isWrapper Tryz.pinned.checked.prog Rows.verifyEndsRow.wrapper Rows.verifyEndsRow.mainSum := by unfold Func.isWrapper; first | (rw [if_pos (by decide +kernel)]; kernel_rfl) | (rw [if_neg (by decide +kernel)]; exact ⟨rfl, rfl⟩)
theorem fact1 : Rows.verifyEndsRow.wfByText (OpenSpec.ofChange Rows.verifyEndsSpec) = true := by kernel_rfl
theorem fact2 : Tryz.pinned.checked.prog.mainIs = some (true, "33eaf2ea52a2efe6830f2e57dd6bac6c6fce5c0f3f2a6fdc3f96f8d83a466aeb".toList) := by kernel_rfl
theorem fact3 : true = Tryz.prog.looks [] := by kernel_rfl
theorem fact4 : false = Rows.verifyEndsRow.goesBy Tryz.pinned.checked.prog := by kernel_rfl
theorem fact5 : ([3, 4].all fun u => !Tryz.prog.wantsStandIn u) = true := by kernel_rfl
end Go.Proofs.YtdgfibghpfegoaaGreatDoor.verifyEnds
