import Derived.Test.YtkngccfjaelcgaaGreatDoorFK0
import Derived.Test.YtkngccfjaelcgaaGreatDoorRows
import Derived.Test.YtkngccfjaelcgaaGreatDoorTie
import Derived.ProofKit
import Derived.OpenShut
import Derived.LaidMore
import Derived.Lay
import Derived.SevenTiedAt
import Derived.Stop.Joined
/- What the laws of this seat share: a remainder, what is left as it was, a start that meets the rows' condition. -/
set_option linter.unusedVariables false
set_option linter.unusedSimpArgs false
namespace Go.Proofs.YtkngccfjaelcgaaGreatDoor
open Go Ev
set_option linter.unusedVariables false
set_option linter.unusedSimpArgs false
theorem own : ownKnob Tryz.prog.godebug = none := by kernel_rfl
theorem kept {tk : Ev.Tok} {W W' : World} (h : Frm (rn0 tk) W W') (may : MemPlace → Prop) : W.keptBut W' may := by
  refine ⟨h.os, h.output, fun i hi => ?_⟩
  rw [h.block i hi (fun _ _ _ h => by cases h) (fun _ _ h => by cases h)]
  cases W.heap[i]? with
  | none => rfl
  | some o => cases o with
    | cells c t fr => exact ⟨rfl, rfl, rfl, fun _ _ => rfl⟩
    | map es clock => exact .inr ⟨rfl, rfl⟩
    | _ => rfl
abbrev laid3 : List (String × DataW Unit) := [("unicode/utf8.acceptRanges", Rows.laid_unicode_utf8_acceptRanges), ("errors.errorType", Rows.laid_errors_errorType), ("unicode/utf8.first", Rows.laid_unicode_utf8_first)]
/-- a start that meets the condition -/
noncomputable def start (os : Os) : World := (World.doorLaid Tryz.prog 26 os).layVars Tryz.prog ((laid3.filter fun x => x.2.handleName?.isNone).filter fun x => ["unicode/utf8.acceptRanges", "unicode/utf8.first"].contains x.1)
theorem start_os (os : Os) : (start os).os = os := World.layVars_os _ _ _
theorem start_met (os : Os) (args : Array Value) : laidMetH Tryz.prog laid3 ((start os).forCall (fun _ _ => 0) ⟨#[], args, []⟩).memory :=
  laidMetH_of_parts
    ((laidMet_layVars (w0 := World.doorLaid Tryz.prog 26 os) (w' := start os) ["unicode/utf8.acceptRanges", "unicode/utf8.first"] [] rfl (by kernel_rfl) (by kernel_rfl)
      (by
        have e : ((laid3.filter fun x => x.2.handleName?.isNone).filter fun x => !["unicode/utf8.acceptRanges", "unicode/utf8.first"].contains x.1) = [] := by kernel_rfl
        rw [e]; exact LaidIn.none)).of_heap (by simp [World.memory, World.forCall, Input.heap])) (by kernel_rfl)
theorem start_shaped (os : Os) (args : Array Value) : ((start os).forCall (fun _ _ => 0) ⟨#[], args, []⟩).Shaped Tryz.prog := World.shaped_of_ZipB (by kernel_rfl) (by kernel_rfl)
end Go.Proofs.YtkngccfjaelcgaaGreatDoor
