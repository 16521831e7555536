import Derived.Test.YtpalciklgbabeaaGreatDoorHK0
import Derived.Test.YtpalciklgbabeaaGreatDoorHR0
import Derived.Test.YtpalciklgbabeaaGreatDoorHH0
/- What kind() tells of any number, and the table in which it is told. Conditions: none of its own. -/
namespace Go.Proofs.YtpalciklgbabeaaGreatDoor
open Go Ev
set_option linter.unusedVariables false
set_option linter.unusedSimpArgs false
noncomputable def isV (v : AV) (o : Out) : Bool := Out.rec (motive := fun _ => Bool) (fun a _ _ => aveq a v) (fun _ _ _ => false) (fun _ _ _ _ => false) (fun _ _ _ _ => false) (fun _ _ _ => false) (fun _ => false) o
theorem isV_inv {v : AV} {o : Out} (h : isV v o = true) : ∃ t n, o = .ok v t n := by
  cases o with
  | ok a t n => exact ⟨t, n, by rw [@aveq_eq T0 V0 O0 _ _ (show aveq a v = true from h)]⟩
  | _ => cases h
def resW (k : Nat) : Nat → Int → Option AV := fun b m => match b with | 0 => if m = 8 then some (ii3 k) else none | _ => none
noncomputable def tabW [Ev.Told] (k : Nat) : Bt FnD := (tab fun _ _ => none).set (orcA s6 (resW k)) 6
theorem kw0 : isV (kindv 0) (run (@tabW T0 0) 1000 noY 12 (.cons (.ref 12 0 0 0 0 0) .nil) .leaf 0) = true := by kernel_rfl
theorem kw1 : isV (kindv 1) (run (@tabW T0 1) 1000 noY 12 (.cons (.ref 12 0 0 0 0 0) .nil) .leaf 0) = true := by kernel_rfl
theorem kw2 : isV (kindv 2) (run (@tabW T0 2) 1000 noY 12 (.cons (.ref 12 0 0 0 0 0) .nil) .leaf 0) = true := by kernel_rfl
theorem kw3 : isV (kindv 3) (run (@tabW T0 3) 1000 noY 12 (.cons (.ref 12 0 0 0 0 0) .nil) .leaf 0) = true := by kernel_rfl
theorem kw4 : isV (kindv 4) (run (@tabW T0 4) 1000 noY 12 (.cons (.ref 12 0 0 0 0 0) .nil) .leaf 0) = true := by kernel_rfl
theorem kw5 : isV (kindv 5) (run (@tabW T0 5) 1000 noY 12 (.cons (.ref 12 0 0 0 0 0) .nil) .leaf 0) = true := by kernel_rfl
theorem kw6 : isV (kindv 6) (run (@tabW T0 6) 1000 noY 12 (.cons (.ref 12 0 0 0 0 0) .nil) .leaf 0) = true := by kernel_rfl
theorem kw7 : isV (kindv 7) (run (@tabW T0 7) 1000 noY 12 (.cons (.ref 12 0 0 0 0 0) .nil) .leaf 0) = true := by kernel_rfl
theorem kind_of {x : Int} {k : Nat} (hk : x % 8 = (k : Int)) (h : isV (kindv k) (run (@tabW T0 k) 1000 noY 12 (.cons (.ref 12 0 0 0 0 0) .nil) .leaf 0) = true) (w : World) :
    Enters Tryz.prog 12 ∧ CallsIn Fence.wide 0 Tryz.prog 12 #[.int .i64 x] w fun r w' => r = .returned (kindV k) ∧ Frm (rn0 (insN x)) w w' := by
  letI : Ev.Told := T0
  letI : TokV := V0
  haveI : ToldOK := O0
  obtain ⟨t, n, h⟩ := isV_inv h
  refine val_ok (tk := insN x) (tab_set tab_ok (ent_orcA e6 ?_)) ?_ h (fun ι => kindv_ok ι k) w (noArg fun _ => rfl)
  · intro b m v hh
    unfold resW at hh
    split at hh
    · split at hh
      · rename_i hm
        injection hh with hh; subst hh; subst hm
        exact ⟨x, k, rfl, fun ι => toV_ii3 ι k, fun y ih t n => by rw [← hk]; exact within_num y ih t n x 8 (by omega) (by omega)⟩
      · cases hh
    · cases hh
  · simp [toT, toV, refV, rn0, insN]
theorem kind_calls (x : Int) (w : World) : Enters Tryz.prog 12 ∧ CallsIn Fence.wide 0 Tryz.prog 12 #[.int .i64 x] w fun r w' => r = .returned (kindV (x % 8).toNat) ∧ Frm (rn0 (insN x)) w w' := by
  have h0 := Int.emod_nonneg x (show (8 : Int) ≠ 0 by omega)
  have h1 := Int.emod_lt_of_pos x (show (0 : Int) < 8 by omega)
  rcases (by omega : x % 8 = 0 ∨ x % 8 = 1 ∨ x % 8 = 2 ∨ x % 8 = 3 ∨ x % 8 = 4 ∨ x % 8 = 5 ∨ x % 8 = 6 ∨ x % 8 = 7) with h | h | h | h | h | h | h | h
  · rw [h]; exact kind_of (k := 0) h kw0 w
  · rw [h]; exact kind_of (k := 1) h kw1 w
  · rw [h]; exact kind_of (k := 2) h kw2 w
  · rw [h]; exact kind_of (k := 3) h kw3 w
  · rw [h]; exact kind_of (k := 4) h kw4 w
  · rw [h]; exact kind_of (k := 5) h kw5 w
  · rw [h]; exact kind_of (k := 6) h kw6 w
  · rw [h]; exact kind_of (k := 7) h kw7 w
/-- what is told of the remainder of the number -/
def resN (k : Nat) : Nat → Int → Option AV := fun b m => match b with | 0 => if m = 3 then some (ii3 k) else none | _ => none
noncomputable def tabH [Ev.Told] (k : Nat) : Bt FnD := (tab1.set (orcA s6 (resN k)) 6).set (orcK s12 resK2) 12
theorem tabH_ok {k : Nat} {s0 s1 : ArgS} {a0 : Int} (hk : a0 % 3 = (k : Int)) : @TabOK (V2 s0 s1) Tryz.prog (insN a0) (@tabH TE k) := by
  letI : Ev.Told := TE
  letI : TokV := V2 s0 s1
  haveI : ToldOK := told2
  refine tab_set (tab_set tab1_ok (ent_orcA e6 ?_)) (ent_orcK e12 ?_)
  · intro b m v hh
    unfold resN at hh
    split at hh
    · split at hh
      · rename_i hm
        injection hh with hh; subst hh; subst hm
        exact ⟨a0, k, rfl, fun ι => toV_ii3 ι k, fun y ih t n => by rw [← hk]; exact within_num y ih t n a0 3 (by omega) (by omega)⟩
      · cases hh
    · cases hh
  · intro q v hh
    obtain ⟨h1, h2⟩ := resK2_ok (s0 := s0) (s1 := s1) hh
    refine ⟨_, _, h1, h2, (kind_calls (elem2 s0.es s1.es (q / 2)) default).1, fun w => CallsIn.mono (kind_calls (elem2 s0.es s1.es (q / 2)) w).2 ?_⟩
    rintro r w' ⟨h3, h4⟩
    exact ⟨h3, ⟨h4.os, h4.tape, h4.output, h4.size, h4.block⟩⟩
end Go.Proofs.YtpalciklgbabeaaGreatDoor
