import Derived.Test.YtjhamfilfgbhlaaGreatDoorAA0
import Derived.Test.YtjhamfilfgbhlaaGreatDoorAA1
import Derived.Test.YtjhamfilfgbhlaaGreatDoorAA2
import Derived.Test.YtjhamfilfgbhlaaGreatDoorAA3
import Derived.Test.YtjhamfilfgbhlaaGreatDoorAA4
import Derived.Test.YtjhamfilfgbhlaaGreatDoorAA5
import Derived.Test.YtjhamfilfgbhlaaGreatDoorAA6
import Derived.Test.YtjhamfilfgbhlaaGreatDoorAH0
import Derived.Test.YtjhamfilfgbhlaaGreatDoorAF0
import Derived.Test.YtjhamfilfgbhlaaGreatDoorAF1
import Derived.Test.YtjhamfilfgbhlaaGreatDoorCards
import Derived.Test.YtjhamfilfgbhlaaGreatDoorTie
/- SlowCasts answers true at every argument, and leaves memory as it was. Conditions: the row's own: three library tables read as the text of the program lays them; the card ties these to the text. -/
namespace Go.Proofs.YtjhamfilfgbhlaaGreatDoor.slowCasts
open Go Ev Go.ChangeShapes Go.WideShapes Go.ChangeAt Go.RowKit
set_option maxRecDepth 100000
set_option linter.unusedVariables false
set_option linter.unusedSimpArgs false
theorem ans (j0 : Int) (h0 : 0 ≤ j0 ∧ j0 < 4) (j1 : Int) (h1 : 0 ≤ j1 ∧ j1 < 7) : isT (run (@tabR T0 (told j0 j1)) 1000 noY 7 (.cons (.ref 12 0 0 0 0 0) (.cons (.ref 12 1 0 0 0 0) .nil)) .leaf 0) = true := by
  rcases (by omega : j0 = 0 ∨ j0 = 1 ∨ j0 = 2 ∨ j0 = 3) with rfl | rfl | rfl | rfl
  · rcases (by omega : j1 = 0 ∨ j1 = 1 ∨ j1 = 2 ∨ j1 = 3 ∨ j1 = 4 ∨ j1 = 5 ∨ j1 = 6) with rfl | rfl | rfl | rfl | rfl | rfl | rfl
    · exact ans_0_0
    · exact ans_0_1
    · exact ans_0_2
    · exact ans_0_3
    · exact ans_0_4
    · exact ans_0_5
    · exact ans_0_6
  · rcases (by omega : j1 = 0 ∨ j1 = 1 ∨ j1 = 2 ∨ j1 = 3 ∨ j1 = 4 ∨ j1 = 5 ∨ j1 = 6) with rfl | rfl | rfl | rfl | rfl | rfl | rfl
    · exact ans_1_0
    · exact ans_1_1
    · exact ans_1_2
    · exact ans_1_3
    · exact ans_1_4
    · exact ans_1_5
    · exact ans_1_6
  · rcases (by omega : j1 = 0 ∨ j1 = 1 ∨ j1 = 2 ∨ j1 = 3 ∨ j1 = 4 ∨ j1 = 5 ∨ j1 = 6) with rfl | rfl | rfl | rfl | rfl | rfl | rfl
    · exact ans_2_0
    · exact ans_2_1
    · exact ans_2_2
    · exact ans_2_3
    · exact ans_2_4
    · exact ans_2_5
    · exact ans_2_6
  · rcases (by omega : j1 = 0 ∨ j1 = 1 ∨ j1 = 2 ∨ j1 = 3 ∨ j1 = 4 ∨ j1 = 5 ∨ j1 = 6) with rfl | rfl | rfl | rfl | rfl | rfl | rfl
    · exact ans_3_0
    · exact ans_3_1
    · exact ans_3_2
    · exact ans_3_3
    · exact ans_3_4
    · exact ans_3_5
    · exact ans_3_6
/-- the ints that come in -/
def ins (a0 a1 : Int) : Ev.Tok := fun b => match b with
  | 0 => some (.i64, a0)
  | 1 => some (.i64, a1)
  | _ => none
theorem walk (a0 : Int) (a1 : Int) (w : World) : Calls Tryz.prog 7 #[.int .i64 a0, .int .i64 a1] w fun e w' => e = .returned (.bool true) ∧ Frm (rn0 (ins a0 a1)) w w' := by
  letI : Ev.Told := T0
  letI : TokV := V0
  haveI : ToldOK := O0
  refine law_ok (tabR_ok (res := told (a0 % 4) (a1 % 7)) ?_) ?_ (ans (a0 % 4) ⟨Int.emod_nonneg _ (by omega), Int.emod_lt_of_pos _ (by omega)⟩ (a1 % 7) ⟨Int.emod_nonneg _ (by omega), Int.emod_lt_of_pos _ (by omega)⟩) w
  · intro b m j h
    unfold told at h
    split at h
    · split at h
      · rename_i hm
        injection h with h; subst h; subst hm
        exact ⟨a0, rfl, fun y ih t n => within_num y ih t n a0 4 (by omega) (by omega)⟩
      · cases h
    · split at h
      · rename_i hm
        injection h with h; subst h; subst hm
        exact ⟨a1, rfl, fun y ih t n => within_num y ih t n a1 7 (by omega) (by omega)⟩
      · cases h
    · cases h
  · simp [toT, toV, refV, rn0, ins]
theorem lifted (os : Os) (started : os.Started) (H : Type) (enc : TypeId × Value → H) :
    ReturnsInHanded {} Tryz.checked os 7 .any (fun w args => (Rows.slowCastsSpec.pre enc Tryz.prog Tryz.f7 Rows.slowCastsRow.domain false w args ∧ laidMetH Tryz.prog laid3 w) ∧ sizedMet enc Tryz.prog Tryz.f7 (OpenSpec.ofChange Rows.slowCastsSpec) false w args)
      (Rows.slowCastsSpec.post enc Tryz.prog Tryz.f7 false true false false) := by
  refine returnsInHanded_of_change_and (C := Tryz.checked) (X := fun w _ => laidMetH Tryz.prog laid3 w) (fun _ _ _ hh h => h.of_heap hh) own started (by kernel_rfl) Tryz.func7
    (ChangeSpec.witness_shaped (enc := enc) (C := Tryz.checked) (os := os) (X := fun w _ => laidMetH Tryz.prog laid3 w) false (start os) #[.int .i64 0, .int .i64 0] 8 (start_os os) (start_shaped os _) (by kernel_rfl) (by kernel_rfl) (by kernel_rfl) (start_met os _)) ?_
  intro W base args ds gs before hval0 hW _ _ hL _
  have hval : ∀ (j : Nat) t v, Tryz.f7.params[j]? = some t → args[j]? = some v → Value.okWide Tryz.prog W .any base t v := hval0
  have hW' := hW
  obtain ⟨p, q, hA0, hV, rfl, hfz, hnd⟩ := hW
  have hA : DataW.TrodAll enc Tryz.prog W 0 (fun _ => true) true Tryz.f7.params.toList args.toList ds p := hA0
  rw [Tryz.params7] at hA hval
  obtain ⟨v0, vs0, d0, ds0, p0, q0, hargs, rfl, rfl, h0, r0⟩ := trodAll_cons hA
  obtain ⟨v1, vs1, d1, ds1, p1, q1, rfl, rfl, rfl, h1, r1⟩ := trodAll_cons r0
  obtain ⟨rfl, rfl, rfl⟩ := trodAll_nil r1
  obtain rfl : args = #[v0, v1] := by cases args; simp_all
  obtain ⟨rfl, rfl⟩ := trodVars_none hV
  obtain ⟨a0, rfl, rfl, rfl, w0⟩ := open_int Tryz.underlying3 (hval 0 3 v0 rfl rfl) h0
  obtain ⟨a1, rfl, rfl, rfl, w1⟩ := open_int Tryz.underlying3 (hval 1 3 v1 rfl rfl) h1
  clear hA0 hval0
  simp only [List.append_nil] at hW'
  refine (walk a0 a1 W).mono fun e W' ⟨he, hg⟩ => ?_
  subst he
  exact ⟨_, rfl, _, _, _, [], [], [], hW', trodAll_cons_mk (shut_bool Tryz.underlying4 _) trodAll_mk0, (trodAll_cons_mk (shut_int Tryz.underlying3 w0) (trodAll_cons_mk (shut_int Tryz.underlying3 w1) trodAll_mk0)), rfl, kept hg _, fun h => by cases h⟩
theorem over : Rows.slowCastsRow.holds Tryz.pinned (OpenSpec.ofChange Rows.slowCastsSpec) :=
  OpenClaim.holds_of_wide 7 Tryz.f7 rfl rfl rfl rfl rfl rfl rfl ⟨rfl, rfl, rfl, rfl, rfl⟩ rfl rfl rfl rfl rfl named Tryz.func7 joined inst wrap
    (fun os started H enc _ => lifted os started H enc)
/-- the statement -/
theorem proved : Rows.SlowCastsCardSaid :=
  Claim7.holds_tied_plain_at .later [] [.data, .handle, .pinned] true (true, "477f1c777edaee60ec6750736c1ab69a53ddd9ec5ace9815532ccdab4613d50f") true over (fun _ h => by cases h) fact1 (fun _ h => by cases h) slowCasts_row_tie rfl ⟨rfl, rfl⟩ fact2 rfl
    (fun f fn hf hfn => by
      obtain rfl : f = 7 := Option.some.inj (named.symm.trans hf) |>.symm
      obtain rfl : fn = Tryz.f7 := (Option.some.inj (Tryz.func7.symm.trans hfn)).symm
      exact ⟨fact3, fun j t ht => by
        rw [Tryz.params7] at ht
        have hm : t ∈ [3] := by have := Array.mem_of_getElem? ht; simp at this; first | (rcases this with rfl | rfl | rfl | rfl <;> simp) | (rcases this with rfl | rfl | rfl <;> simp) | (rcases this with rfl | rfl <;> simp) | (subst this; simp)
        exact (show Tryz.prog.wantsStandIn t = false by simpa using List.all_eq_true.1 fact5 t hm)⟩)
    fact4
end Go.Proofs.YtjhamfilfgbhlaaGreatDoor.slowCasts
