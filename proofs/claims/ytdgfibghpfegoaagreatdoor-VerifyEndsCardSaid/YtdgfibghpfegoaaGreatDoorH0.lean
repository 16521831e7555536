import Derived.Test.YtdgfibghpfegoaaGreatDoorT0
import Derived.Test.YtdgfibghpfegoaaGreatDoorRows
import Derived.Test.YtdgfibghpfegoaaGreatDoorTie
import Derived.ProofKit
import Derived.OpenShut
import Derived.LaidMore
import Derived.Lay
import Derived.SevenTiedAt
import Derived.Stop.Joined
/- What the laws of this seat share: a remainder, what is left as it was, a start that meets the rows' condition. -/
namespace Go.Proofs.YtdgfibghpfegoaaGreatDoor
open Go Ev
set_option linter.unusedVariables false
set_option linter.unusedSimpArgs false
theorem own : ownKnob Tryz.prog.godebug = none := by kernel_rfl
theorem kept {tk : Ev.Tok} {W W' : World} (h : Frm (rn0 tk) W W') (may : MemPlace → Prop) : W.keptBut W' may := by
  refine ⟨h.os, h.output, fun i hi => ?_⟩
  rw [h.block i hi (fun _ _ _ h => by cases h) (fun _ _ h => by cases h)]
  cases W.heap[i]? with
  | none => rfl
  | some o => cases o with
    | cells c t fr => exact ⟨rfl, rfl, rfl, fun _ _ => rfl⟩
    | map es clock => exact .inr ⟨rfl, rfl⟩
    | _ => rfl
theorem pRem_num {x m : Int} {k : K} (hm : m ≠ 0) : pRem (.num 3 x) (.num 3 m) k = k (.num 3 (x.tmod m)) := by
  show bO (ibeq m 0) (.err 31) (pI 3 (x.tmod m) k) = _
  have : ibeq m 0 = false := by rw [ibeq_eq]; simpa using hm
  rw [this]
  exact pI_eq 3 _ k
theorem pLss_num {a b : Int} {k : K} : pLss (.num 3 a) (.num 3 b) k = k (.num 8 (if b ≤ a then 0 else 1)) := by
  show nB (ile b a) k = _
  rw [nB_eq, ile_eq]
  by_cases h : b ≤ a <;> simp [h]
theorem pAdd_num {a b : Int} {k : K} (h : -9223372036854775808 ≤ a + b ∧ a + b ≤ 9223372036854775807) : pAdd (.num 3 a) (.num 3 b) k = k (.num 3 (a + b)) := by
  show pI 3 (wrapI 3 (a + b)) k = _
  rw [pI_eq, wrapI_eq]
  have e : IntKind.i64.wrap (a + b) = a + b := by rw [IntKind.wrap_i64]; omega
  show k (.num 3 (IntKind.i64.wrap (a + b))) = _
  rw [e]
section
variable (y : Yh) (ih : Ih) (t : H) (n : Nat)
noncomputable def fin10 (o : Out) : Out := Out.rec (motive := fun _ => Out) (fun _ _ _ => .err 7) (fun e t n => V 4 e fun a11 => .ok (one (.cons a11 .nil)) t n) (fun _ _ _ _ => .err 7) (fun _ _ _ _ => .err 7) (fun e t n => V 4 e fun a11 => .ok (one (.cons a11 .nil)) t n) (fun c => .err c) o
noncomputable def env10 (x m : Int) : T AV := T.set (fillE (.cons (.num 3 x) (.cons (.num 3 m) .nil)) 0 .leaf) (.num 3 (.ofNat 0)) 4
noncomputable def last10 : KD := fun e t8 n9 => V 5 e fun a10 => W 4 a10 e fun e => .ret e t8 n9
noncomputable def test10 (e : T AV) : K := fun v4 => W 10 v4 e fun e => cIf (.t 10) (fun y ih e t n k => V 5 e fun a5 => V 1 e fun a6 => pAdd a5 a6 fun v7 => W 5 v7 e fun e => k e t n) (cSkip) y ih e t n last10
theorem w1 (x m : Int) : s10 y ih (.cons (.num 3 x) (.cons (.num 3 m) .nil)) t n = fin10 (pRem (.num 3 x) (.num 3 m) fun v2 => W 5 v2 (env10 x m) fun e => V 5 e fun a3 => pLss a3 (.num 3 (.ofNat 0)) (test10 y ih t n e)) := by kernel_rfl
theorem w2 (x m r : Int) : (W 5 (.num 3 r) (env10 x m) fun e => V 5 e fun a3 => pLss a3 (.num 3 (.ofNat 0)) (test10 y ih t n e)) = pLss (.num 3 r) (.num 3 0) (test10 y ih t n (T.set (env10 x m) (.num 3 r) 5)) := by kernel_rfl
theorem w3 (x m r : Int) : fin10 (test10 y ih t n (T.set (env10 x m) (.num 3 r) 5) (.num 8 0)) = .ok (.num 3 r) t n := by kernel_rfl
theorem w4 (x m r : Int) : test10 y ih t n (T.set (env10 x m) (.num 3 r) 5) (.num 8 1) = pAdd (.num 3 r) (.num 3 m) fun v7 => W 5 v7 (T.set (T.set (env10 x m) (.num 3 r) 5) (.num 8 1) 10) fun e => last10 e t n := by kernel_rfl
theorem w5 (x m r s : Int) : fin10 (W 5 (.num 3 s) (T.set (T.set (env10 x m) (.num 3 r) 5) (.num 8 1) 10) fun e => last10 e t n) = .ok (.num 3 s) t n := by kernel_rfl
theorem within_num (x m : Int) (hm : 0 < m) (hm2 : m < 4611686018427387904) : s10 y ih (.cons (.num 3 x) (.cons (.num 3 m) .nil)) t n = .ok (.num 3 (x % m)) t n := by
  have h1 : x.tmod m = x % m ∨ (x.tmod m < 0 ∧ -m < x.tmod m ∧ x.tmod m + m = x % m) := by
    have h2 := Int.emod_nonneg x (show m ≠ 0 by omega)
    have h3 := Int.emod_lt_of_pos x hm
    have h4 := Int.tmod_eq_emod (a := x) (b := m)
    split at h4
    · left; omega
    · right
      have : (m.natAbs : Int) = m := by omega
      omega
  have h0 : 0 ≤ x % m := Int.emod_nonneg x (by omega)
  have h5 : x % m < m := Int.emod_lt_of_pos x hm
  rw [w1, pRem_num (by omega), w2, pLss_num]
  rcases h1 with h1 | ⟨h1, h2, h3⟩
  · rw [if_pos (by omega), w3, h1]
  · rw [if_neg (by omega), w4, pAdd_num (by omega), w5, h3]
end
abbrev laid3 : List (String × DataW Unit) := [("unicode/utf8.acceptRanges", Rows.laid_unicode_utf8_acceptRanges), ("errors.errorType", Rows.laid_errors_errorType), ("unicode/utf8.first", Rows.laid_unicode_utf8_first)]
/-- a start that meets the condition -/
noncomputable def start (os : Os) : World := (World.doorLaid Tryz.prog 26 os).layVars Tryz.prog ((laid3.filter fun x => x.2.handleName?.isNone).filter fun x => ["unicode/utf8.acceptRanges", "unicode/utf8.first"].contains x.1)
theorem start_os (os : Os) : (start os).os = os := World.layVars_os _ _ _
theorem start_met (os : Os) (args : Array Value) : laidMetH Tryz.prog laid3 ((start os).forCall (fun _ _ => 0) ⟨#[], args, []⟩).memory :=
  laidMetH_of_parts
    ((laidMet_layVars (w0 := World.doorLaid Tryz.prog 26 os) (w' := start os) ["unicode/utf8.acceptRanges", "unicode/utf8.first"] [] rfl (by kernel_rfl) (by kernel_rfl)
      (by
        have e : ((laid3.filter fun x => x.2.handleName?.isNone).filter fun x => !["unicode/utf8.acceptRanges", "unicode/utf8.first"].contains x.1) = [] := by kernel_rfl
        rw [e]; exact LaidIn.none)).of_heap (by simp [World.memory, World.forCall, Input.heap])) (by kernel_rfl)
theorem start_shaped (os : Os) (args : Array Value) : ((start os).forCall (fun _ _ => 0) ⟨#[], args, []⟩).Shaped Tryz.prog := World.shaped_of_ZipB (by kernel_rfl) (by kernel_rfl)
end Go.Proofs.YtdgfibghpfegoaaGreatDoor
