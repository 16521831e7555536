import Derived.Test.YtppcobdghedkgaaGreatDoorCards
import Derived.Test.YtppcobdghedkgaaGreatDoorTie
import Derived.JoinedOf
import Derived.KernelRfl
/- Closed facts on the row and the card of SlowReckons. -/
namespace Go.Proofs.YtppcobdghedkgaaGreatDoor.slowReckons
open Go
set_option maxRecDepth 100000
set_option linter.unusedVariables false
set_option linter.unusedSimpArgs false
set_option maxHeartbeats 8000000 in
theorem joined : joinedFacts Tryz.pinned.checked.prog 3 Tryz.f3 Rows.slowReckonsSpec Rows.slowReckonsRow = true := by
  unfold joinedFacts
  simp only [Bool.and_eq_true]
  repeat' apply And.intro
  all_goals (as_aux_lemma => kernel_rfl)
theorem named : Tryz.pinned.checked.prog.funcNamed Rows.slowReckonsRow.func = some 3 := by kernel_rfl
theorem inst : Tryz.f3.isInstance Tryz.pinned.checked.prog Rows.slowReckonsRow.origin Rows.slowReckonsRow.targs := of_decide_eq_true (by kernel_rfl)
theorem wrap : Tryz.f3.isWrapper Tryz.pinned.checked.prog Rows.slowReckonsRow.wrapper Rows.slowReckonsRow.mainSum := by unfold Func.isWrapper; first | (rw [if_pos (by decide +kernel)]; kernel_rfl) | (rw [if_neg (by decide +kernel)]; exact ⟨rfl, rfl⟩)
theorem fact1 : Rows.slowReckonsRow.wfByText (OpenSpec.ofChange Rows.slowReckonsSpec) = true := by kernel_rfl
theorem fact2 : Tryz.pinned.checked.prog.mainIs = some (true, "43a98ac7ea08b18964704f70efeed1033267e2e980e7503427636fe54701ed3b".toList) := by kernel_rfl
theorem fact3 : true = Tryz.prog.looks [] := by kernel_rfl
theorem fact4 : false = Rows.slowReckonsRow.goesBy Tryz.pinned.checked.prog := by kernel_rfl
theorem fact5 : ([2, 3].all fun u => !Tryz.prog.wantsStandIn u) = true := by kernel_rfl
end Go.Proofs.YtppcobdghedkgaaGreatDoor.slowReckons
