import Derived.Test.YtpalciklgbabeaaGreatDoorEK0
import Derived.Test.YtpalciklgbabeaaGreatDoorRows
import Derived.Test.YtpalciklgbabeaaGreatDoorTie
import Derived.ProofKit
import Derived.OpenShut
import Derived.LaidMore
import Derived.Lay
import Derived.SevenTiedAt
import Derived.Stop.Joined
/- What the laws of this seat share: a remainder, what is left as it was, a start that meets the rows' condition. -/
set_option linter.unusedVariables false
set_option linter.unusedSimpArgs false
namespace Go.Proofs.YtpalciklgbabeaaGreatDoor
open Go Ev
set_option linter.unusedVariables false
set_option linter.unusedSimpArgs false
theorem own : ownKnob Tryz.prog.godebug = none := by kernel_rfl
theorem kept {tk : Ev.Tok} {W W' : World} (h : Frm (rn0 tk) W W') (may : MemPlace → Prop) : W.keptBut W' may := by
  refine ⟨h.os, h.output, fun i hi => ?_⟩
  rw [h.block i hi (fun _ _ _ h => by cases h) (fun _ _ h => by cases h)]
  cases W.heap[i]? with
  | none => rfl
  | some o => cases o with
    | cells c t fr => exact ⟨rfl, rfl, rfl, fun _ _ => rfl⟩
    | map es clock => exact .inr ⟨rfl, rfl⟩
    | _ => rfl
set_option linter.unusedSectionVars false
section
variable [Ev.Told] [TokV] [ToldOK]
theorem pRem_num {x m : Int} {k : K} (hm : m ≠ 0) : q4 (.num 3 x) (.num 3 m) k = k (.num 3 (x.tmod m)) := by
  show bO (ibeq m 0) (.err 31) (pI 3 (x.tmod m) k) = _
  have : ibeq m 0 = false := by rw [ibeq_eq]; simpa using hm
  rw [this]
  exact pI_eq 3 _ k
theorem pLss_num {a b : Int} {k : K} : q12 (.num 3 a) (.num 3 b) k = k (.num 8 (if b ≤ a then 0 else 1)) := by
  have slow : pLss (.num 3 a) (.num 3 b) k = k (.num 8 (if b ≤ a then 0 else 1)) := by
    show nB (ile b a) k = _
    rw [nB_eq, ile_eq]
    by_cases h : b ≤ a <;> simp [h]
  cases a with
  | negSucc m => exact slow
  | ofNat m =>
    cases b with
    | negSucc n => exact slow
    | ofNat n =>
      show Bool.rec (motive := fun _ => Out) (k tt) (k ff) (Nat.ble n m) = _
      cases h : Nat.ble n m with
      | true => have := Nat.le_of_ble_eq_true h; rw [if_pos (by simpa using this)]; rfl
      | false =>
        have : ¬ n ≤ m := fun e => by rw [Nat.ble_eq_true_of_le e] at h; cases h
        rw [if_neg (by simpa using this)]; rfl
theorem pAdd_num {a b : Int} {k : K} (h : -9223372036854775808 ≤ a + b ∧ a + b ≤ 9223372036854775807) : q0 (.num 3 a) (.num 3 b) k = k (.num 3 (a + b)) := by
  have slow : pAdd (.num 3 a) (.num 3 b) k = k (.num 3 (a + b)) := by
    show pI 3 (wrapI 3 (a + b)) k = _
    rw [pI_eq, wrapI_eq]
    have e : IntKind.i64.wrap (a + b) = a + b := by rw [IntKind.wrap_i64]; omega
    show k (.num 3 (IntKind.i64.wrap (a + b))) = _
    rw [e]
  cases a with
  | negSucc m => exact slow
  | ofNat m =>
    cases b with
    | negSucc n => exact slow
    | ofNat n =>
      show forceN (Nat.add m n) (fun s => inL 3 s k (pAdd (.num 3 (.ofNat m)) (.num 3 (.ofNat n)) k)) = _
      rw [forceN_eq]
      unfold inL
      cases Nat.ble (Nat.succ (Nat.add m n)) (lim1 3) with
      | true => rfl
      | false => exact slow
variable (y : Yh) (ih : Ih) (t : H) (n : Nat)
noncomputable def fin5 (o : Out) : Out := Out.rec (motive := fun _ => Out) (fun _ _ _ => .err 7) (fun e t n => rd e.a.c0.c4 fun a => .ok (one (.cons a .nil)) t n) (fun _ _ _ _ => .err 7) (fun _ _ _ _ => .err 7) (fun e t n => rd e.a.c0.c4 fun a => .ok (one (.cons a .nil)) t n) (fun c => .err c) o
noncomputable def env5 (x m : Int) : T AV := fillE (.cons (.num 3 x) (.cons (.num 3 m) .nil)) 0 .leaf
noncomputable def end5 : KD := fun e t7 n8 => rd e.a.c0.c5 fun a9 => w1 y0 (P4 a9) e fun e => .ret e t7 n8
noncomputable def more5 (e : T AV) (v3 : AV) : K := fun v6 => w1 y0 (O5 v6 (O10 v3 (P4 (N 0)))) e fun e => end5 e t n
noncomputable def test5 (e : T AV) (v2 : AV) : K := fun v3 => vbool v3 (rd e.a.c0.c1 fun a5 => q0 v2 a5 (more5 t n e v3)) (w1 y0 (O10 v3 (O5 v2 (P4 (N 0)))) e fun e => end5 e t n)
theorem z1 (x m : Int) : s6 y ih (.cons (.num 3 x) (.cons (.num 3 m) .nil)) t n = fin5 (q4 (.num 3 x) (.num 3 m) fun v2 => q12 v2 (.num 3 0) (test5 t n (env5 x m) v2)) := by kernel_rfl
theorem z3 (x m r : Int) : fin5 (test5 t n (env5 x m) (.num 3 r) (.num 8 0)) = .ok (.num 3 r) t n := by kernel_rfl
theorem z4 (x m r : Int) : test5 t n (env5 x m) (.num 3 r) (.num 8 1) = q0 (.num 3 r) (.num 3 m) (more5 t n (env5 x m) (.num 8 1)) := by kernel_rfl
theorem z5 (x m s : Int) : fin5 (more5 t n (env5 x m) (.num 8 1) (.num 3 s)) = .ok (.num 3 s) t n := by kernel_rfl
theorem within_num (x m : Int) (hm : 0 < m) (hm2 : m < 4611686018427387904) : s6 y ih (.cons (.num 3 x) (.cons (.num 3 m) .nil)) t n = .ok (.num 3 (x % m)) t n := by
  have h1 : x.tmod m = x % m ∨ (x.tmod m < 0 ∧ -m < x.tmod m ∧ x.tmod m + m = x % m) := by
    have h2 := Int.emod_nonneg x (show m ≠ 0 by omega)
    have h3 := Int.emod_lt_of_pos x hm
    have h4 := Int.tmod_eq_emod (a := x) (b := m)
    split at h4
    · left; omega
    · right
      have : (m.natAbs : Int) = m := by omega
      omega
  have h0 : 0 ≤ x % m := Int.emod_nonneg x (by omega)
  have h5 : x % m < m := Int.emod_lt_of_pos x hm
  rw [z1, pRem_num (by omega), pLss_num]
  rcases h1 with h1 | ⟨h1, h2, h3⟩
  · rw [if_pos (by omega), z3, h1]
  · rw [if_neg (by omega), z4, pAdd_num (by omega), z5, h3]
end
abbrev laid3 : List (String × DataW Unit) := [("unicode/utf8.acceptRanges", Rows.laid_unicode_utf8_acceptRanges), ("errors.errorType", Rows.laid_errors_errorType), ("unicode/utf8.first", Rows.laid_unicode_utf8_first)]
/-- a start that meets the condition -/
noncomputable def start (os : Os) : World := (World.doorLaid Tryz.prog 26 os).layVars Tryz.prog ((laid3.filter fun x => x.2.handleName?.isNone).filter fun x => ["unicode/utf8.acceptRanges", "unicode/utf8.first"].contains x.1)
theorem start_os (os : Os) : (start os).os = os := World.layVars_os _ _ _
theorem start_met (os : Os) (args : Array Value) : laidMetH Tryz.prog laid3 ((start os).forCall (fun _ _ => 0) ⟨#[], args, []⟩).memory :=
  laidMetH_of_parts
    ((laidMet_layVars (w0 := World.doorLaid Tryz.prog 26 os) (w' := start os) ["unicode/utf8.acceptRanges", "unicode/utf8.first"] [] rfl (by kernel_rfl) (by kernel_rfl)
      (by
        have e : ((laid3.filter fun x => x.2.handleName?.isNone).filter fun x => !["unicode/utf8.acceptRanges", "unicode/utf8.first"].contains x.1) = [] := by kernel_rfl
        rw [e]; exact LaidIn.none)).of_heap (by simp [World.memory, World.forCall, Input.heap])) (by kernel_rfl)
theorem start_shaped (os : Os) (args : Array Value) : ((start os).forCall (fun _ _ => 0) ⟨#[], args, []⟩).Shaped Tryz.prog := World.shaped_of_ZipB (by kernel_rfl) (by kernel_rfl)
end Go.Proofs.YtpalciklgbabeaaGreatDoor
