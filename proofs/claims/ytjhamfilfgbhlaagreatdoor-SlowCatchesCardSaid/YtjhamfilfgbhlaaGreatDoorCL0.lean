import Derived.Test.YtjhamfilfgbhlaaGreatDoorCA0
import Derived.Test.YtjhamfilfgbhlaaGreatDoorCA1
import Derived.Test.YtjhamfilfgbhlaaGreatDoorCA2
import Derived.Test.YtjhamfilfgbhlaaGreatDoorCA3
import Derived.Test.YtjhamfilfgbhlaaGreatDoorCA4
import Derived.Test.YtjhamfilfgbhlaaGreatDoorCA5
import Derived.Test.YtjhamfilfgbhlaaGreatDoorCA6
import Derived.Test.YtjhamfilfgbhlaaGreatDoorCA7
import Derived.Test.YtjhamfilfgbhlaaGreatDoorCA8
import Derived.Test.YtjhamfilfgbhlaaGreatDoorCA9
import Derived.Test.YtjhamfilfgbhlaaGreatDoorCA10
import Derived.Test.YtjhamfilfgbhlaaGreatDoorCA11
import Derived.Test.YtjhamfilfgbhlaaGreatDoorCA12
import Derived.Test.YtjhamfilfgbhlaaGreatDoorCA13
import Derived.Test.YtjhamfilfgbhlaaGreatDoorCA14
import Derived.Test.YtjhamfilfgbhlaaGreatDoorCA15
import Derived.Test.YtjhamfilfgbhlaaGreatDoorCA16
import Derived.Test.YtjhamfilfgbhlaaGreatDoorCA17
import Derived.Test.YtjhamfilfgbhlaaGreatDoorCA18
import Derived.Test.YtjhamfilfgbhlaaGreatDoorCA19
import Derived.Test.YtjhamfilfgbhlaaGreatDoorCA20
import Derived.Test.YtjhamfilfgbhlaaGreatDoorCA21
import Derived.Test.YtjhamfilfgbhlaaGreatDoorCA22
import Derived.Test.YtjhamfilfgbhlaaGreatDoorCA23
import Derived.Test.YtjhamfilfgbhlaaGreatDoorCH0
import Derived.Test.YtjhamfilfgbhlaaGreatDoorCF0
import Derived.Test.YtjhamfilfgbhlaaGreatDoorCF1
import Derived.Test.YtjhamfilfgbhlaaGreatDoorCards
import Derived.Test.YtjhamfilfgbhlaaGreatDoorTie
/- SlowCatches answers true at every argument, and leaves memory as it was. Conditions: the row's own: three library tables read as the text of the program lays them; the card ties these to the text. -/
namespace Go.Proofs.YtjhamfilfgbhlaaGreatDoor.slowCatches
open Go Ev Go.ChangeShapes Go.WideShapes Go.ChangeAt Go.RowKit
set_option maxRecDepth 100000
set_option linter.unusedVariables false
set_option linter.unusedSimpArgs false
theorem ans (j0 : Int) (h0 : 0 ≤ j0 ∧ j0 < 4) (j1 : Int) (h1 : 0 ≤ j1 ∧ j1 < 4) (j2 : Int) (h2 : 0 ≤ j2 ∧ j2 < 3) (b3 : Bool) : isT (run (@tabR T0 (told j0 j1 j2)) 1000 noY 5 (.cons (.ref 12 0 0 0 0 0) (.cons (.ref 12 1 0 0 0 0) (.cons (.ref 12 2 0 0 0 0) (.cons (bo b3) .nil)))) .leaf 0) = true := by
  rcases (by omega : j0 = 0 ∨ j0 = 1 ∨ j0 = 2 ∨ j0 = 3) with rfl | rfl | rfl | rfl
  · rcases (by omega : j1 = 0 ∨ j1 = 1 ∨ j1 = 2 ∨ j1 = 3) with rfl | rfl | rfl | rfl
    · rcases (by omega : j2 = 0 ∨ j2 = 1 ∨ j2 = 2) with rfl | rfl | rfl
      · cases b3
        · exact ans_0_0_0_f
        · exact ans_0_0_0_t
      · cases b3
        · exact ans_0_0_1_f
        · exact ans_0_0_1_t
      · cases b3
        · exact ans_0_0_2_f
        · exact ans_0_0_2_t
    · rcases (by omega : j2 = 0 ∨ j2 = 1 ∨ j2 = 2) with rfl | rfl | rfl
      · cases b3
        · exact ans_0_1_0_f
        · exact ans_0_1_0_t
      · cases b3
        · exact ans_0_1_1_f
        · exact ans_0_1_1_t
      · cases b3
        · exact ans_0_1_2_f
        · exact ans_0_1_2_t
    · rcases (by omega : j2 = 0 ∨ j2 = 1 ∨ j2 = 2) with rfl | rfl | rfl
      · cases b3
        · exact ans_0_2_0_f
        · exact ans_0_2_0_t
      · cases b3
        · exact ans_0_2_1_f
        · exact ans_0_2_1_t
      · cases b3
        · exact ans_0_2_2_f
        · exact ans_0_2_2_t
    · rcases (by omega : j2 = 0 ∨ j2 = 1 ∨ j2 = 2) with rfl | rfl | rfl
      · cases b3
        · exact ans_0_3_0_f
        · exact ans_0_3_0_t
      · cases b3
        · exact ans_0_3_1_f
        · exact ans_0_3_1_t
      · cases b3
        · exact ans_0_3_2_f
        · exact ans_0_3_2_t
  · rcases (by omega : j1 = 0 ∨ j1 = 1 ∨ j1 = 2 ∨ j1 = 3) with rfl | rfl | rfl | rfl
    · rcases (by omega : j2 = 0 ∨ j2 = 1 ∨ j2 = 2) with rfl | rfl | rfl
      · cases b3
        · exact ans_1_0_0_f
        · exact ans_1_0_0_t
      · cases b3
        · exact ans_1_0_1_f
        · exact ans_1_0_1_t
      · cases b3
        · exact ans_1_0_2_f
        · exact ans_1_0_2_t
    · rcases (by omega : j2 = 0 ∨ j2 = 1 ∨ j2 = 2) with rfl | rfl | rfl
      · cases b3
        · exact ans_1_1_0_f
        · exact ans_1_1_0_t
      · cases b3
        · exact ans_1_1_1_f
        · exact ans_1_1_1_t
      · cases b3
        · exact ans_1_1_2_f
        · exact ans_1_1_2_t
    · rcases (by omega : j2 = 0 ∨ j2 = 1 ∨ j2 = 2) with rfl | rfl | rfl
      · cases b3
        · exact ans_1_2_0_f
        · exact ans_1_2_0_t
      · cases b3
        · exact ans_1_2_1_f
        · exact ans_1_2_1_t
      · cases b3
        · exact ans_1_2_2_f
        · exact ans_1_2_2_t
    · rcases (by omega : j2 = 0 ∨ j2 = 1 ∨ j2 = 2) with rfl | rfl | rfl
      · cases b3
        · exact ans_1_3_0_f
        · exact ans_1_3_0_t
      · cases b3
        · exact ans_1_3_1_f
        · exact ans_1_3_1_t
      · cases b3
        · exact ans_1_3_2_f
        · exact ans_1_3_2_t
  · rcases (by omega : j1 = 0 ∨ j1 = 1 ∨ j1 = 2 ∨ j1 = 3) with rfl | rfl | rfl | rfl
    · rcases (by omega : j2 = 0 ∨ j2 = 1 ∨ j2 = 2) with rfl | rfl | rfl
      · cases b3
        · exact ans_2_0_0_f
        · exact ans_2_0_0_t
      · cases b3
        · exact ans_2_0_1_f
        · exact ans_2_0_1_t
      · cases b3
        · exact ans_2_0_2_f
        · exact ans_2_0_2_t
    · rcases (by omega : j2 = 0 ∨ j2 = 1 ∨ j2 = 2) with rfl | rfl | rfl
      · cases b3
        · exact ans_2_1_0_f
        · exact ans_2_1_0_t
      · cases b3
        · exact ans_2_1_1_f
        · exact ans_2_1_1_t
      · cases b3
        · exact ans_2_1_2_f
        · exact ans_2_1_2_t
    · rcases (by omega : j2 = 0 ∨ j2 = 1 ∨ j2 = 2) with rfl | rfl | rfl
      · cases b3
        · exact ans_2_2_0_f
        · exact ans_2_2_0_t
      · cases b3
        · exact ans_2_2_1_f
        · exact ans_2_2_1_t
      · cases b3
        · exact ans_2_2_2_f
        · exact ans_2_2_2_t
    · rcases (by omega : j2 = 0 ∨ j2 = 1 ∨ j2 = 2) with rfl | rfl | rfl
      · cases b3
        · exact ans_2_3_0_f
        · exact ans_2_3_0_t
      · cases b3
        · exact ans_2_3_1_f
        · exact ans_2_3_1_t
      · cases b3
        · exact ans_2_3_2_f
        · exact ans_2_3_2_t
  · rcases (by omega : j1 = 0 ∨ j1 = 1 ∨ j1 = 2 ∨ j1 = 3) with rfl | rfl | rfl | rfl
    · rcases (by omega : j2 = 0 ∨ j2 = 1 ∨ j2 = 2) with rfl | rfl | rfl
      · cases b3
        · exact ans_3_0_0_f
        · exact ans_3_0_0_t
      · cases b3
        · exact ans_3_0_1_f
        · exact ans_3_0_1_t
      · cases b3
        · exact ans_3_0_2_f
        · exact ans_3_0_2_t
    · rcases (by omega : j2 = 0 ∨ j2 = 1 ∨ j2 = 2) with rfl | rfl | rfl
      · cases b3
        · exact ans_3_1_0_f
        · exact ans_3_1_0_t
      · cases b3
        · exact ans_3_1_1_f
        · exact ans_3_1_1_t
      · cases b3
        · exact ans_3_1_2_f
        · exact ans_3_1_2_t
    · rcases (by omega : j2 = 0 ∨ j2 = 1 ∨ j2 = 2) with rfl | rfl | rfl
      · cases b3
        · exact ans_3_2_0_f
        · exact ans_3_2_0_t
      · cases b3
        · exact ans_3_2_1_f
        · exact ans_3_2_1_t
      · cases b3
        · exact ans_3_2_2_f
        · exact ans_3_2_2_t
    · rcases (by omega : j2 = 0 ∨ j2 = 1 ∨ j2 = 2) with rfl | rfl | rfl
      · cases b3
        · exact ans_3_3_0_f
        · exact ans_3_3_0_t
      · cases b3
        · exact ans_3_3_1_f
        · exact ans_3_3_1_t
      · cases b3
        · exact ans_3_3_2_f
        · exact ans_3_3_2_t
/-- the ints that come in -/
def ins (a0 a1 a2 : Int) : Ev.Tok := fun b => match b with
  | 0 => some (.i64, a0)
  | 1 => some (.i64, a1)
  | 2 => some (.i64, a2)
  | _ => none
theorem walk (a0 : Int) (a1 : Int) (a2 : Int) (a3 : Bool) (w : World) : Calls Tryz.prog 5 #[.int .i64 a0, .int .i64 a1, .int .i64 a2, .bool a3] w fun e w' => e = .returned (.bool true) ∧ Frm (rn0 (ins a0 a1 a2)) w w' := by
  letI : Ev.Told := T0
  letI : TokV := V0
  haveI : ToldOK := O0
  refine law_ok (tabR_ok (res := told (a0 % 4) (a1 % 4) (a2 % 3)) ?_) ?_ (ans (a0 % 4) ⟨Int.emod_nonneg _ (by omega), Int.emod_lt_of_pos _ (by omega)⟩ (a1 % 4) ⟨Int.emod_nonneg _ (by omega), Int.emod_lt_of_pos _ (by omega)⟩ (a2 % 3) ⟨Int.emod_nonneg _ (by omega), Int.emod_lt_of_pos _ (by omega)⟩ a3) w
  · intro b m j h
    unfold told at h
    split at h
    · split at h
      · rename_i hm
        injection h with h; subst h; subst hm
        exact ⟨a0, rfl, fun y ih t n => within_num y ih t n a0 4 (by omega) (by omega)⟩
      · cases h
    · split at h
      · rename_i hm
        injection h with h; subst h; subst hm
        exact ⟨a1, rfl, fun y ih t n => within_num y ih t n a1 4 (by omega) (by omega)⟩
      · cases h
    · split at h
      · rename_i hm
        injection h with h; subst h; subst hm
        exact ⟨a2, rfl, fun y ih t n => within_num y ih t n a2 3 (by omega) (by omega)⟩
      · cases h
    · cases h
  · cases a3 <;> simp [toT, toV, refV, rn0, ins, bo, numV]
theorem lifted (os : Os) (started : os.Started) (H : Type) (enc : TypeId × Value → H) :
    ReturnsInHanded {} Tryz.checked os 5 .any (fun w args => (Rows.slowCatchesSpec.pre enc Tryz.prog Tryz.f5 Rows.slowCatchesRow.domain false w args ∧ laidMetH Tryz.prog laid3 w) ∧ sizedMet enc Tryz.prog Tryz.f5 (OpenSpec.ofChange Rows.slowCatchesSpec) false w args)
      (Rows.slowCatchesSpec.post enc Tryz.prog Tryz.f5 false true false false) := by
  refine returnsInHanded_of_change_and (C := Tryz.checked) (X := fun w _ => laidMetH Tryz.prog laid3 w) (fun _ _ _ hh h => h.of_heap hh) own started (by kernel_rfl) Tryz.func5
    (ChangeSpec.witness_shaped (enc := enc) (C := Tryz.checked) (os := os) (X := fun w _ => laidMetH Tryz.prog laid3 w) false (start os) #[.int .i64 0, .int .i64 0, .int .i64 0, .bool false] 8 (start_os os) (start_shaped os _) (by kernel_rfl) (by kernel_rfl) (by kernel_rfl) (start_met os _)) ?_
  intro W base args ds gs before hval0 hW _ _ hL _
  have hval : ∀ (j : Nat) t v, Tryz.f5.params[j]? = some t → args[j]? = some v → Value.okWide Tryz.prog W .any base t v := hval0
  have hW' := hW
  obtain ⟨p, q, hA0, hV, rfl, hfz, hnd⟩ := hW
  have hA : DataW.TrodAll enc Tryz.prog W 0 (fun _ => true) true Tryz.f5.params.toList args.toList ds p := hA0
  rw [Tryz.params5] at hA hval
  obtain ⟨v0, vs0, d0, ds0, p0, q0, hargs, rfl, rfl, h0, r0⟩ := trodAll_cons hA
  obtain ⟨v1, vs1, d1, ds1, p1, q1, rfl, rfl, rfl, h1, r1⟩ := trodAll_cons r0
  obtain ⟨v2, vs2, d2, ds2, p2, q2, rfl, rfl, rfl, h2, r2⟩ := trodAll_cons r1
  obtain ⟨v3, vs3, d3, ds3, p3, q3, rfl, rfl, rfl, h3, r3⟩ := trodAll_cons r2
  obtain ⟨rfl, rfl, rfl⟩ := trodAll_nil r3
  obtain rfl : args = #[v0, v1, v2, v3] := by cases args; simp_all
  obtain ⟨rfl, rfl⟩ := trodVars_none hV
  obtain ⟨a0, rfl, rfl, rfl, w0⟩ := open_int Tryz.underlying3 (hval 0 3 v0 rfl rfl) h0
  obtain ⟨a1, rfl, rfl, rfl, w1⟩ := open_int Tryz.underlying3 (hval 1 3 v1 rfl rfl) h1
  obtain ⟨a2, rfl, rfl, rfl, w2⟩ := open_int Tryz.underlying3 (hval 2 3 v2 rfl rfl) h2
  obtain ⟨a3, rfl, rfl, rfl⟩ := open_bool Tryz.underlying4 (hval 3 4 v3 rfl rfl) h3
  clear hA0 hval0
  simp only [List.append_nil] at hW'
  refine (walk a0 a1 a2 a3 W).mono fun e W' ⟨he, hg⟩ => ?_
  subst he
  exact ⟨_, rfl, _, _, _, [], [], [], hW', trodAll_cons_mk (shut_bool Tryz.underlying4 _) trodAll_mk0, (trodAll_cons_mk (shut_int Tryz.underlying3 w0) (trodAll_cons_mk (shut_int Tryz.underlying3 w1) (trodAll_cons_mk (shut_int Tryz.underlying3 w2) (trodAll_cons_mk (shut_bool Tryz.underlying4 _) trodAll_mk0)))), rfl, kept hg _, fun h => by cases h⟩
theorem over : Rows.slowCatchesRow.holds Tryz.pinned (OpenSpec.ofChange Rows.slowCatchesSpec) :=
  OpenClaim.holds_of_wide 5 Tryz.f5 rfl rfl rfl rfl rfl rfl rfl ⟨rfl, rfl, rfl, rfl, rfl⟩ rfl rfl rfl rfl rfl named Tryz.func5 joined inst wrap
    (fun os started H enc _ => lifted os started H enc)
/-- the statement -/
theorem proved : Rows.SlowCatchesCardSaid :=
  Claim7.holds_tied_plain_at .later [] [.data, .handle, .pinned] true (true, "477f1c777edaee60ec6750736c1ab69a53ddd9ec5ace9815532ccdab4613d50f") true over (fun _ h => by cases h) fact1 (fun _ h => by cases h) slowCatches_row_tie rfl ⟨rfl, rfl⟩ fact2 rfl
    (fun f fn hf hfn => by
      obtain rfl : f = 5 := Option.some.inj (named.symm.trans hf) |>.symm
      obtain rfl : fn = Tryz.f5 := (Option.some.inj (Tryz.func5.symm.trans hfn)).symm
      exact ⟨fact3, fun j t ht => by
        rw [Tryz.params5] at ht
        have hm : t ∈ [3, 4] := by have := Array.mem_of_getElem? ht; simp at this; first | (rcases this with rfl | rfl | rfl | rfl <;> simp) | (rcases this with rfl | rfl | rfl <;> simp) | (rcases this with rfl | rfl <;> simp) | (subst this; simp)
        exact (show Tryz.prog.wantsStandIn t = false by simpa using List.all_eq_true.1 fact5 t hm)⟩)
    fact4
end Go.Proofs.YtjhamfilfgbhlaaGreatDoor.slowCatches
