import Derived.Test.YtlkiacbmbfmlpaaRows
import Derived.JoinedOf
import Derived.KernelRfl
/- Closed facts on the row of MapsBytes. -/
namespace Go.Proofs.Ytlkiacbmbfmlpaa.mapsBytes
open Go
set_option maxRecDepth 100000
set_option linter.unusedVariables false
set_option linter.unusedSimpArgs false
set_option maxHeartbeats 8000000 in
theorem joined : joinedFacts Try.pinned.checked.prog 3 Try.f3 Rows.mapsBytesSpec Rows.mapsBytesRow = true := by
  unfold joinedFacts
  simp only [Bool.and_eq_true]
  repeat' apply And.intro
  all_goals (as_aux_lemma => kernel_rfl)
theorem named : Try.pinned.checked.prog.funcNamed Rows.mapsBytesRow.func = some 3 := by kernel_rfl
theorem inst : Try.f3.isInstance Try.pinned.checked.prog Rows.mapsBytesRow.origin Rows.mapsBytesRow.targs := of_decide_eq_true (by kernel_rfl)
theorem wrap : Try.f3.isWrapper Try.pinned.checked.prog Rows.mapsBytesRow.wrapper Rows.mapsBytesRow.mainSum := by unfold Func.isWrapper; first | (rw [if_pos (by decide +kernel)]; kernel_rfl) | (rw [if_neg (by decide +kernel)]; exact ⟨rfl, rfl⟩)
end Go.Proofs.Ytlkiacbmbfmlpaa.mapsBytes
