import Derived.Test.YtlkiacbmbfmlpaaRows
import Derived.JoinedOf
import Derived.KernelRfl
/- Closed facts on the row of MapsBack. -/
namespace Go.Proofs.Ytlkiacbmbfmlpaa.mapsBack
open Go
set_option maxRecDepth 100000
set_option linter.unusedVariables false
set_option linter.unusedSimpArgs false
set_option maxHeartbeats 8000000 in
theorem joined : joinedFacts Try.pinned.checked.prog 4 Try.f4 Rows.mapsBackSpec Rows.mapsBackRow = true := by
  unfold joinedFacts
  simp only [Bool.and_eq_true]
  repeat' apply And.intro
  all_goals (as_aux_lemma => kernel_rfl)
theorem named : Try.pinned.checked.prog.funcNamed Rows.mapsBackRow.func = some 4 := by kernel_rfl
theorem inst : Try.f4.isInstance Try.pinned.checked.prog Rows.mapsBackRow.origin Rows.mapsBackRow.targs := of_decide_eq_true (by kernel_rfl)
theorem wrap : Try.f4.isWrapper Try.pinned.checked.prog Rows.mapsBackRow.wrapper Rows.mapsBackRow.mainSum := by unfold Func.isWrapper; first | (rw [if_pos (by decide +kernel)]; kernel_rfl) | (rw [if_neg (by decide +kernel)]; exact ⟨rfl, rfl⟩)
end Go.Proofs.Ytlkiacbmbfmlpaa.mapsBack
